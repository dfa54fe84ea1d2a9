/- Texts joined by pack.py: lemmas for YtepaekbjoombpaaGreatDoorSettles. No condition. -/
import Derived.Test.YtepaekbjoombpaaGreatDoorPE12
set_option linter.unusedSimpArgs false
set_option linter.unusedVariables false
set_option linter.defProp false
section
namespace Go.Proofs.YtepaekbjoombpaaGreatDoor
open Go Go.Proofs Go.Eng Go.Run Tab Go.Sort
set_option maxRecDepth 100000
set_option linter.unusedSimpArgs false
set_option linter.unusedVariables false
set_option linter.defProp false
set_option maxHeartbeats 1000000
set_option linter.defProp false
def zcB:=(And.intro (And.intro @agg3 @by3) (And.intro @inf3 (And.intro @sz3 @Tryz.underlying40)))
def zdX:=(And.intro (And.intro (And.intro @agg3 @zcq) (And.intro @by3 @inf3)) (And.intro (And.intro @zbW @sz3) (And.intro @sz40 @Tryz.underlying40)))
def zc8:=(And.intro (And.intro (And.intro @zcq @by3) (And.intro @inf3 @zbW)) (And.intro (And.intro @sz3 @sz40) (And.intro @zbH @Tryz.underlying40)))
theorem zpX {w:World}{g:Nat}{xs:List Int}{tl:List Value}(hb:w.heap[g]?=some (.cells (Eng.ints xs++tl).toArray 3 (0,0))):Holds (Value.int .i64) w g 0 xs.toArray:=by
  intro j hj
  have hj:j<xs.length:=by simpa using hj
  refine⟨?_,?_⟩
  · simp only [World.cell?,hb,Nat.zero_add]
    rw [List.getElem?_toArray,List.getElem?_append_left (by rw [Eng.zl]; exact hj),Eng.ints_getElem? _ _ hj]
    simp [List.getD,hj]
  · simp [World.frozen?,hb]
theorem znC {w:World}{g:Nat}{xs ys:List Int}{tl:List Value}(hb:w.heap[g]?=some (.cells (Eng.ints xs++tl).toArray 3 (0,0)))(hl:ys.length=xs.length) :
    (putRow (Value.int .i64) w g 0 ys.toArray).heap[g]?=some (.cells (Eng.ints ys++tl).toArray 3 (0,0))∧Upd w.heap (putRow (Value.int .i64) w g 0 ys.toArray).heap g:=by
  have hg:=zt hb
  refine⟨?_,?_,?_⟩
  · simp only [putRow,mapBlock,Array.getElem?_modify,if_true,hb,Option.map_some,onCells]
    congr 2
    refine Array.ext_getElem? fun k=>?_
    simp only [putCells,Array.getElem?_mapIdx,List.getElem?_toArray,Nat.zero_le,true_and,Nat.zero_add,Nat.sub_zero,List.size_toArray]
    by_cases hk:k<ys.length
    · rw [List.getElem?_append_left (by rw [Eng.zl]; omega),List.getElem?_append_left (by rw [Eng.zl]; omega),Eng.ints_getElem? _ _ (by omega),Eng.ints_getElem? _ _ hk]
      simp [hk,List.getD]
    · rw [List.getElem?_append_right (by rw [Eng.zl]; omega),List.getElem?_append_right (by rw [Eng.zl]; omega),Eng.zl,Eng.zl,hl]
      cases tl[k - xs.length]? with
      | none=>rfl
      | some v=>simp [hk]; omega
  · simp [putRow,mapBlock]
  · intro b hne
    simp only [putRow,mapBlock,Array.getElem?_modify]
    rw [if_neg (fun e=>hne e.symm)]
theorem zkM {P:Program}{f:FuncId}{args:Array Value}{K:Value→Eng.Heap→Prop}{h:Eng.Heap}(hb:zn P f=true)(H:∀ w:World,w.heap=h→Calls P f args w fun e w'=>∃ v,e=.returned v∧K v w'.heap∧w'.os=w.os∧w'.tape=w.tape∧w'.output=w.output):zb P f args h K:=by
  unfold zb zbh
  refine⟨hb,fun w hw=>?_⟩
  refine (H w hw).mono fun e w' ⟨v,he,hk,h1,h2,h3⟩=>⟨v,he,hk,h1,h2,h3⟩
def srt (l:List Int):Prop:=l.Pairwise (·≤·)
theorem zmp (xs:List Int):(xs.mergeSort fun x y=>decide (x≤y)).Perm xs∧srt (xs.mergeSort fun x y=>decide (x≤y)):=by
  refine⟨List.mergeSort_perm _ _,?_⟩
  have:=List.pairwise_mergeSort (le:=fun x y:Int=>decide (x≤y)) (fun a b c h1 h2=>by simp at *; omega) (fun a b=>by simp; omega) xs
  exact this.imp fun h=>by simpa using h
theorem sort132 (g c n:Nat)(xs:List Int)(tl:List Value)(h:Eng.Heap)(hb:h[g]?=some (.cells (Eng.ints xs++tl).toArray 3))(hn:n=xs.length)(hl:n≤1000000) :
    zb Tryz.prog 132 #[.slice (some ⟨g,0,none⟩) n c] h (fun v h'=>v=.tuple #[]∧(h.size≤h'.size∧∀ b,b<h.size→b≠g→h'[b]?=h[b]?)∧∃ ys,ys.Perm xs∧srt ys∧h'[g]?=some (.cells (Eng.ints ys++tl).toArray 3)):=by
  subst hn
  refine zkM (by kernel_rfl) fun w hw=>?_
  subst hw
  have hg:=zt hb
  refine (Any.slices_Sort_int Tryz.lays189 g 0 c xs w (zpX hb) hg (by omega)).mono ?_
  rintro e w' ⟨rfl,n,os,rfl⟩
  obtain⟨p1,p2⟩:=zmp xs
  have hb':(Go.Sort.ahead w n).heap[g]?=some (.cells (Eng.ints xs++tl).toArray 3 (0,0)):=hb
  obtain⟨q1,q2⟩:=znC (ys:=xs.mergeSort fun x y=>decide (x≤y)) hb' p1.length_eq
  refine⟨_,rfl,⟨rfl,⟨?_,fun b hbl hne=>?_⟩,_,p1,p2,?_⟩,rfl,rfl,rfl⟩
  · show w.heap.size≤((putRow _ _ _ _ _).heap++os).size
    rw [Array.size_append,q2.size]
    show w.heap.size≤w.heap.size+_
    omega
  · show ((putRow _ _ _ _ _).heap++os)[b]?=_
    rw [Array.getElem?_append_left (by rw [q2.size]; exact hbl),q2.old b hne]
    rfl
  · show ((putRow _ _ _ _ _).heap++os)[g]?=_
    rw [Array.getElem?_append_left (by rw [q2.size]; exact hg)]
    exact q1
theorem sort0 (a:Option Addr)(c:Nat)(h:Eng.Heap):zb Tryz.prog 132 #[.slice a 0 c] h (fun v h'=>v=.tuple #[]∧h'=h):=by
  refine zkM (by kernel_rfl) fun w hw=>?_
  subst hw
  refine (Any.slices_Sort_int_none Tryz.lays189 a c w).mono ?_
  rintro e w' ⟨rfl,rfl⟩
  exact⟨_,rfl,⟨rfl,rfl⟩,rfl,rfl,rfl⟩
theorem znq (m n c:Nat)(a:Option Addr)(xs:List Int)(h:Eng.Heap)(O:OwnI m h 3 a n c xs)(hl:n≤1000000) :
    zb Tryz.prog 132 #[.slice a n c] h (fun v h'=>v=.tuple #[]∧(h.size≤h'.size∧∀ b,b<h.size→b<m→h'[b]?=h[b]?)∧∃ ys,ys.Perm xs∧srt ys∧OwnI m h' 3 a n c ys):=by
  have hn:=O.ln
  by_cases h0:0<n
  · obtain⟨g,tl,rfl,hg,hb,hc,hc2,_⟩:=O.block h0
    refine zb.mono (sort132 g c n xs tl h hb hn hl) ?_
    rintro v h' ⟨rfl,⟨q1,q2⟩,ys,hp,hs,hb2⟩
    have e:=hp.length_eq
    refine⟨rfl,⟨q1,fun b h1 h2=>q2 b h1 (by omega)⟩,ys,hp,hs,?_⟩
    have:=OwnI.of_block (xs:=ys) (cap:=c) hg hb2 (by omega) (by omega)
    rwa [show ys.length=n by omega] at this
  · obtain rfl:n=0:=by omega
    refine zb.mono (sort0 a c h) ?_
    rintro v h' ⟨rfl,rfl⟩
    obtain rfl:xs=[]:=List.length_eq_zero_iff.1 hn.symm
    exact⟨rfl,⟨Nat.le_refl _,fun b _ _=>rfl⟩,[],List.Perm.refl _,List.Pairwise.nil,O⟩
def yis (xs:List Int):List (List Value):=xs.map fun x=>[.int .i64 x]
theorem zqO (lo bx n c:Nat)(a:Option Addr)(xs:List Int)(h:Eng.Heap)(hn:n=xs.length)(hl:n≤1000000)(J:Nat→Eng.Heap→Prop)(E:Eng.Heap→Prop)
    (hx:∀ i h',J i h'→h'[bx]?=some (.cells #[.slice a n c] 40)∧zJ h' a n xs) (h0:J 0 h)
    (step:∀ i h' vs,(yis xs)[i]?=some vs→J i h'→zfx Tryz.prog (.func (.yield lo) #[] #[]) vs h' (fun v h''=>(v=.bool true∧J (i+1) h'')∨(v=.bool false∧E h''))) :
    zb Tryz.prog 133 (#[]++#[.func (.yield lo) #[] #[]]++#[.pointer (some ⟨bx,0,none⟩)]) h (fun v h'=>J (yis xs).length h'∨E h'):=by
  simp only [Array.append_empty,Array.empty_append,List.append_toArray,List.cons_append,List.nil_append]
  (refine ze Tryz.func133 rfl bod133 ?_; simp only [Tryz.ntmps133,Tryz.results133,za,zh,splice,Value.cells,Value.oneCell',Nat.reduceAdd,Nat.reduceSub,Nat.reduceMul,Nat.reduceLeDiff,Int.reduceEq,Nat.reduceEqDiff,zdX])
  simp only [(hx 0 h h0).1,za,Value.cells,Value.oneCell',Nat.reduceAdd,Nat.reduceSub,Nat.reduceMul,Nat.reduceLeDiff,Int.reduceEq,Nat.reduceEqDiff,zdX]
  refine zo [4,7,8,9,10,11,12,13,14,15] (fun g h'=>∃ i:Nat,i≤n∧g 7=.int .i64 i∧J i h') (fun g _=>match g 7 with | .int _ m=>n - m.toNat | _=>0) ?_ ?_
  · exact⟨0,by omega,rfl,h0⟩
  · rintro g h' ⟨i,hi,hg,hJ⟩
    have hv:=(hx i h' hJ).2
    simp only [hg,za,Value.cells,Value.oneCell',Nat.reduceAdd,Nat.reduceSub,Nat.reduceMul,Nat.reduceLeDiff,Int.reduceEq,Nat.reduceEqDiff,zdX]
    refine⟨fun hlt=>?_,fun hge=>?_⟩
    · have hil:i<xs.length:=by omega
      simp only [hv.cell hil,za,Value.cells,Value.oneCell',Nat.reduceAdd,Nat.reduceSub,Nat.reduceMul,Nat.reduceLeDiff,Int.reduceEq,Nat.reduceEqDiff,zy,zI,zB,zA,zH,zM,zdX]
      refine⟨⟨by omega,by omega⟩,hv.isSome (by omega),?_⟩
      have hst:=step i h' [.int .i64 (xs.getD i 0)] (by simp [yis,List.getD,List.getElem?_eq_getElem hil]) hJ
      refine hst.run1 rfl rfl ?_
      rintro v h2 (⟨rfl,hJ2⟩ | ⟨rfl,hE⟩)
      · simp only [za,Value.cells,Value.oneCell',Nat.reduceAdd,Nat.reduceSub,Nat.reduceMul,Nat.reduceLeDiff,Int.reduceEq,Nat.reduceEqDiff,zy,zI,zB,zA,zH,zM,zdX]
        refine⟨by rw [zf]; omega,zi (by kernel_rfl) ⟨i+1,by omega,rfl,hJ2⟩ ?_⟩
        show n - ((i:Int)+1).toNat<n - (i:Int).toNat
        omega
      · simp only [za,Value.cells,Value.oneCell',Nat.reduceAdd,Nat.reduceSub,Nat.reduceMul,Nat.reduceLeDiff,Int.reduceEq,Nat.reduceEqDiff,zy,zI,zB,zA,zH,zM,zdX]
        exact .inr hE
    · have:i=n:=by omega
      subst this
      left
      have e:(yis xs).length=xs.length:=by simp [yis]
      rw [e,← hn]
      exact hJ
theorem zpw {bx n c:Nat}{a:Option Addr}{xs:List Int}(hn:n=xs.length)(hl:n≤1000000) :
    zi6 Tryz.prog (.func (.func 133) #[] #[.pointer (some ⟨bx,0,none⟩)]) (fun h'=>h'[bx]?=some (.cells #[.slice a n c] 40)∧zJ h' a n xs) (yis xs):=
  ⟨133,_,_,rfl,fun lo h0 J E hx hJ step=>zqO lo bx n c a xs h0 hn hl J E hx hJ step⟩
theorem zrf (a:Option Addr)(n c:Nat)(h:Eng.Heap):zb Tryz.prog 101 #[.slice a n c] h (fun v h'=>v=.func (.func 133) #[] #[.pointer (some ⟨h.size,0,none⟩)]∧h'=h.push (.cells #[.slice a n c] 40)):=by
  (refine ze Tryz.func101 rfl bod101 ?_; simp only [Tryz.ntmps101,Tryz.results101,za,zh,splice,Value.cells,Value.oneCell',Nat.reduceAdd,Nat.reduceSub,Nat.reduceMul,Nat.reduceLeDiff,Int.reduceEq,Nat.reduceEqDiff])
theorem zmn (v:Value)(xs:List Int){F:Eng.Heap→Prop}(h:Eng.Heap)(hseq:zi6 Tryz.prog v F (yis xs))(hl:xs.length≤1000)(hF:∀ h',Ext h h'→F h') :
    zb Tryz.prog 163 #[.slice none 0 0,v] h (fun v' h'=>Ext h h'∧NewI h.size h' 3 v' xs):=by
  (refine ze Tryz.func163 rfl bod163 ?_; simp only [Tryz.ntmps163,Tryz.results163,za,zh,splice,Value.cells,Value.oneCell',Nat.reduceAdd,Nat.reduceSub,Nat.reduceMul,Nat.reduceLeDiff,Int.reduceEq,Nat.reduceEqDiff,zc8])
  obtain⟨hh,hhe⟩:∃ hh,hh=h.push (.cells (Value.slice none 0 0).cells 40):=⟨_,rfl⟩
  refine zqS (xss:=yis xs) rfl hseq (fun i h'=>Ext h h'∧i≤xs.length∧h'[h.size+1]?=some (.deferred (some []))∧∃ a cap,h'[h.size]?=some (.cells #[.slice a i cap] 40)∧OwnI (h.size+3) h' 3 a i cap (xs.take i)) (fun _ _=>False) ?_ ?_ ?_ ?_ ?_ ?_ ?_ ?_
  · intro vs hvs
    simp only [yis,List.mem_map] at hvs
    obtain⟨_,_,rfl⟩:=hvs
    rfl
  · exact fun i h' H=>hF _ H.1
  · rintro i h1 h2 ⟨x,hi,h3,a,cap,h4,h5⟩ u
    simp only [zaa] at u
    exact⟨u.ext x (by omega),hi,u.get h3 (by omega),a,cap,u.get h4 (by omega),h5.upd u (by omega)⟩
  · exact fun j h1 h2 H _=>H
  · intro h' x h1 h2
    simp only [zaa] at h1
    exact⟨x.of_push,by omega,h1,none,0,x.get zu,OwnI.nil _ _ _⟩
  · rintro i h' vs o hvs ⟨x,hi,h1,a,cap,h2,h3⟩ ho
    obtain⟨hil,rfl⟩:∃ hil:i<xs.length,vs=[.int .i64 (xs.getD i 0)]:=by
      simp only [yis,List.getElem?_map] at hvs
      cases hq:xs[i]? with
      | none=>simp [hq] at hvs
      | some y=>
        obtain⟨hil,hy⟩:=List.getElem?_eq_some_iff.1 hq
        refine⟨hil,?_⟩
        simp [hq] at hvs
        simp [List.getD,hq,hvs]
    simp only [zaa] at ho
    simp only [znv,za,Value.cells,Value.oneCell',Nat.reduceAdd,Nat.reduceSub,Nat.reduceMul,Nat.reduceLeDiff,Int.reduceEq,Nat.reduceEqDiff,zy,zI,zB,zA,zH,zM,zc8]
    refine⟨ho,fun h4 o2 u4 ho2=>?_⟩
    have k2:=u4.get h2 (by omega)
    have k1:=u4.get h1 (by omega)
    have k3:=h3.upd u4 (by omega)
    have kx:=u4.ext x (by omega)
    clear h1 h2 h3 x u4 ho
    simp only [k2,za,Value.cells,Value.oneCell',Nat.reduceAdd,Nat.reduceSub,Nat.reduceMul,Nat.reduceLeDiff,Int.reduceEq,Nat.reduceEqDiff,zy,zI,zB,zA,zH,zM,zc8]
    have hsz:=zt ho2
    have k3':=k3.ext ((Ext.refl h4).push (.cells #[.int .i64 (xs.getD i 0)] 3))
    refine ziQ rfl rfl k3' (by simp; omega) (zaB zu) (by omega) fun a' cap' h5 O A=>?_
    have q1:=A.upd k3' (zaO k1) (by omega)
    have q2:=A.upd k3' (zaO k2) (by omega)
    have q3:=A.upd k3' (zaO ho2) (by omega)
    have qx:=A.extN k3' (kx.push _) (by omega)
    clear A k1 k2 k3 k3' ho2 hsz kx
    simp only [q2,za,Value.cells,Value.oneCell',Nat.reduceAdd,Nat.reduceSub,Nat.reduceMul,Nat.reduceLeDiff,Int.reduceEq,Nat.reduceEqDiff,zy,zI,zB,zA,zH,zM,zc8]
    refine zax q2 (by simp) fun h6 g2 u6=>?_
    simp only [znN,za,Value.cells,Value.oneCell',Nat.reduceAdd,Nat.reduceSub,Nat.reduceMul,Nat.reduceLeDiff,Int.reduceEq,Nat.reduceEqDiff,zy,zI,zB,zA,zH,zM,zc8]
    refine⟨u6.get q3 (by omega),u6.ext qx (by omega),hil,u6.get q1 (by omega),a',cap',g2,?_⟩
    have e:xs.take i++[xs.getD i 0]=xs.take (i+1):=by
      rw [List.take_add_one,List.getElem?_eq_getElem hil,List.getD,List.getElem?_eq_getElem hil]; rfl
    rw [← e]
    exact O.upd u6 (by omega)
  · rintro h' ⟨x,hi,h1,a,cap,h2,h3⟩
    have e:(yis xs).length=xs.length:=by simp [yis]
    rw [e] at h2 h3
    simp only [zaa,h2,za,Value.cells,Value.oneCell',Nat.reduceAdd,Nat.reduceSub,Nat.reduceMul,Nat.reduceLeDiff,Int.reduceEq,Nat.reduceEqDiff,zy,zI,zB,zA,zH,zM,zc8]
    refine fin_mark h1 ?_
    simp only [za,Value.cells,Value.oneCell',Nat.reduceAdd,Nat.reduceSub,Nat.reduceMul,Nat.reduceLeDiff,Int.reduceEq,Nat.reduceEqDiff,zy,zI,zB,zA,zH,zM,zc8]
    rw [List.take_of_length_le (Nat.le_refl _)] at h3
    exact⟨Upd.set.ext x (by omega),a,cap,rfl,(h3.upd Upd.set (by omega)).mono (by omega)⟩
  · exact fun j h' H=>H.elim
theorem zpr (v:Value)(xs:List Int){F:Eng.Heap→Prop}(h:Eng.Heap)(hseq:zi6 Tryz.prog v F (yis xs))(hl:xs.length≤1000)(hF:∀ h',Ext h h'→F h') :
    zb Tryz.prog 131 #[v] h (fun v' h'=>Ext h h'∧NewI h.size h' 3 v' xs):=by
  (refine ze Tryz.func131 rfl bod131 ?_; simp only [Tryz.ntmps131,Tryz.results131,za,zh,splice,Value.cells,Value.oneCell',Nat.reduceAdd,Nat.reduceSub,Nat.reduceMul,Nat.reduceLeDiff,Int.reduceEq,Nat.reduceEqDiff])
  refine zb.mono (zmn v xs h hseq hl hF) ?_
  rintro v' h1 ⟨x,N⟩
  simp only [za,Value.cells,Value.oneCell',Nat.reduceAdd,Nat.reduceSub,Nat.reduceMul,Nat.reduceLeDiff,Int.reduceEq,Nat.reduceEqDiff]
  exact⟨x,N⟩
theorem zrN (v:Value)(xs:List Int){F:Eng.Heap→Prop}(h:Eng.Heap)(hseq:zi6 Tryz.prog v F (yis xs))(hl:xs.length≤1000)(hF:∀ h',Ext h h'→F h') :
    zb Tryz.prog 100 #[v] h (fun v' h'=>Ext h h'∧∃ ys,ys.Perm xs∧srt ys∧NewI h.size h' 3 v' ys):=by
  (refine ze Tryz.func100 rfl bod100 ?_; simp only [Tryz.ntmps100,Tryz.results100,za,zh,splice,Value.cells,Value.oneCell',Nat.reduceAdd,Nat.reduceSub,Nat.reduceMul,Nat.reduceLeDiff,Int.reduceEq,Nat.reduceEqDiff])
  refine zb.mono (zpr v xs h hseq hl hF) ?_
  rintro v' h1 ⟨x1,a,cap,rfl,O⟩
  simp only [za,Value.cells,Value.oneCell',Nat.reduceAdd,Nat.reduceSub,Nat.reduceMul,Nat.reduceLeDiff,Int.reduceEq,Nat.reduceEqDiff]
  refine zb.mono (znq h.size xs.length cap a xs h1 O (by omega)) ?_
  rintro v h2 ⟨rfl,⟨q1,q2⟩,ys,hp,hs,O2⟩
  simp only [za,Value.cells,Value.oneCell',Nat.reduceAdd,Nat.reduceSub,Nat.reduceMul,Nat.reduceLeDiff,Int.reduceEq,Nat.reduceEqDiff]
  refine⟨⟨Nat.le_trans x1.size q1,fun b hb=>(q2 b (Nat.lt_of_lt_of_le hb x1.size) hb).trans (x1.old b hb)⟩,ys,hp,hs,a,cap,by rw [hp.length_eq],?_⟩
  have:=O2
  rwa [← hp.length_eq] at this
theorem equal103 (a b:Option Addr)(n c m k:Nat)(xs ys:List Int)(h:Eng.Heap)(hx:zJ h a n xs)(hy:zJ h b m ys)(hl:n≤1000000)(hm:m≤1000000) :
    zb Tryz.prog 103 #[.slice a n c,.slice b m k] h (fun v h'=>v=.bool (decide (xs=ys))∧h'=h):=by
  have hn:=hx.len
  have hn2:=hy.len
  (refine ze Tryz.func103 rfl bod103 ?_; simp only [Tryz.ntmps103,Tryz.results103,za,zh,splice,Value.cells,Value.oneCell',Nat.reduceAdd,Nat.reduceSub,Nat.reduceMul,Nat.reduceLeDiff,Int.reduceEq,Nat.reduceEqDiff,zcB])
  by_cases he:n=m
  · subst he
    simp only [decide_true,Bool.not_true,za,Value.cells,Value.oneCell',Nat.reduceAdd,Nat.reduceSub,Nat.reduceMul,Nat.reduceLeDiff,Int.reduceEq,Nat.reduceEqDiff,zcB]
    refine zo [4,5,13,14,15,16,17,18,19,20,21,22,23,24,25] (fun g h'=>h'=h∧∃ i:Nat,i≤n∧g 13=.int .i64 i∧∀ j<i,xs.getD j 0=ys.getD j 0) (fun g _=>match g 13 with | .int _ m=>n - m.toNat | _=>0) ⟨rfl,0,by omega,rfl,fun j hj=>by omega⟩ ?_
    rintro g h' ⟨rfl,i,hin,hg,hno⟩
    by_cases hi:i<n
    · have hlt:(i:Int)<(n:Int):=by omega
      simp only [hg,hlt,decide_true,za,Value.cells,Value.oneCell',Nat.reduceAdd,Nat.reduceSub,Nat.reduceMul,Nat.reduceLeDiff,Int.reduceEq,Nat.reduceEqDiff,zcB]
      refine zam (by kernel_rfl) zaM [(0,0),(1,0),(2,0),(3,0),(4,0),(5,0),(6,0),(7,0),(8,0)] (by kernel_rfl) rfl (by kernel_rfl) ?_
      simp only [hg,hx.cell (j:=i) (by omega),hy.cell (j:=i) (by omega),Int.toNat_natCast,zW,za,Value.cells,Value.oneCell',Nat.reduceAdd,Nat.reduceSub,Nat.reduceMul,Nat.reduceLeDiff,Int.reduceEq,Nat.reduceEqDiff,zx,zcB]
      repeat (refine And.intro (by first | omega | (rw [zf]; omega) | rfl | assumption | (exact hx.isSome (by omega)) | (exact hy.isSome (by omega))) ?_)
      by_cases hxy:xs.getD i 0=ys.getD i 0
      · simp only [hxy,decide_true,Bool.not_true,hg,za,Value.cells,Value.oneCell',Nat.reduceAdd,Nat.reduceSub,Nat.reduceMul,Nat.reduceLeDiff,Int.reduceEq,Nat.reduceEqDiff,zcB]
        refine⟨by rw [zf]; omega,zi (by kernel_rfl) ⟨rfl,i+1,by omega,rfl,fun j hj=>?_⟩ ?_⟩
        · by_cases hji:j=i
          · subst hji; exact hxy
          · exact hno j (by omega)
        · show n - ((i:Int)+1).toNat<n - (i:Int).toNat
          omega
      · have hne:¬ xs=ys:=fun hh=>hxy (by rw [hh])
        simp only [hxy,decide_false,Bool.not_false,za,Value.cells,Value.oneCell',Nat.reduceAdd,Nat.reduceSub,Nat.reduceMul,Nat.reduceLeDiff,Int.reduceEq,Nat.reduceEqDiff,zcB]
        simp [hne]
    · have hxy:xs=ys:=zfr (by omega) fun j hj=>hno j (by omega)
      have hlt:¬ (i:Int)<(n:Int):=by omega
      simp only [hg,hlt,decide_false,za,Value.cells,Value.oneCell',Nat.reduceAdd,Nat.reduceSub,Nat.reduceMul,Nat.reduceLeDiff,Int.reduceEq,Nat.reduceEqDiff,zcB]
      simp [hxy]
  · have hne:¬ xs=ys:=fun hh=>he (by rw [hn,hn2,hh])
    have he2:¬ (n:Int)=m:=by omega
    simp only [he2,decide_false,Bool.not_false,za,Value.cells,Value.oneCell',Nat.reduceAdd,Nat.reduceSub,Nat.reduceMul,Nat.reduceLeDiff,Int.reduceEq,Nat.reduceEqDiff,zcB]
    simp [hne]
end Go.Proofs.YtepaekbjoombpaaGreatDoor
end
section
namespace Go.Proofs.YtepaekbjoombpaaGreatDoor
open Go Go.Proofs Go.Eng Go.Run Tab
set_option maxRecDepth 100000
set_option linter.unusedSimpArgs false
set_option linter.unusedVariables false
set_option linter.defProp false
set_option maxHeartbeats 1000000
set_option linter.defProp false
def zdv:=(And.intro (And.intro @agg3 @by3) (And.intro @inf3 (And.intro @sz3 @Tryz.underlying40)))
def zc7:=(And.intro (And.intro @zcq (And.intro @by40 @zbW)) (And.intro @sz40 (And.intro @Tryz.underlying40 @Tryz.underlying73)))
def zdW:=(And.intro (And.intro @by3 @inf3) (And.intro @sz3 @Tryz.underlying40))
structure Lss (h:Eng.Heap)(T:List Hd)(gs:List (List Int)):Prop where
  len:T.length=gs.length
  each:∀ i,i<gs.length→zJ h (T.getD i (none,0,0)).1 (T.getD i (none,0,0)).2.1 (gs.getD i [])
theorem Lss.ext {h h':Eng.Heap}{T:List Hd}{gs:List (List Int)}(L:Lss h T gs)(x:Ext h h'):Lss h' T gs:=⟨L.len,fun i hi=>(L.each i hi).ext x⟩
theorem zbw {h:Eng.Heap}{b:Option Addr}{T:List Hd}(R:Row h b (hdsV T)){j:Nat}(hj:j<T.length):zT h (eltP b j)=some (.slice (T.getD j (none,0,0)).1 (T.getD j (none,0,0)).2.1 (T.getD j (none,0,0)).2.2):=by
  rw [zb2 R hj,List.getD_eq_getElem?_getD,List.getElem?_eq_getElem hj]; rfl
theorem isNaN162 (x:Int)(h:Eng.Heap):zb Tryz.prog 162 #[.int .i64 x] h (fun v h'=>v=.bool false∧h'=h):=by
  (refine ze Tryz.func162 rfl bod162 ?_; simp only [Tryz.ntmps162,Tryz.results162,za,zh,splice,Value.cells,Value.oneCell',Nat.reduceAdd,Nat.reduceSub,Nat.reduceMul,Nat.reduceLeDiff,Int.reduceEq,Nat.reduceEqDiff])
  simp
def SrtP (xs:List Int)(v:Value):Prop:=∃ bo:Bool,v=.bool bo∧(bo=true↔adjE xs)
theorem less130 (x y:Int)(h:Eng.Heap):zb Tryz.prog 130 #[.int .i64 x,.int .i64 y] h (fun v h'=>v=.bool (decide (x<y))∧h'=h):=by
  (refine ze Tryz.func130 rfl bod130 ?_; simp only [Tryz.ntmps130,Tryz.results130,za,zh,splice,Value.cells,Value.oneCell',Nat.reduceAdd,Nat.reduceSub,Nat.reduceMul,Nat.reduceLeDiff,Int.reduceEq,Nat.reduceEqDiff])
  refine zb.mono (isNaN162 x h) ?_
  rintro v h1 ⟨rfl,rfl⟩
  simp only [zO,zU,za,Value.cells,Value.oneCell',Nat.reduceAdd,Nat.reduceSub,Nat.reduceMul,Nat.reduceLeDiff,Int.reduceEq,Nat.reduceEqDiff]
theorem zpN (a:Option Addr)(n c:Nat)(xs:List Int)(h:Eng.Heap)(I:zJ h a n xs)(hl:n≤1000000) :
    zb Tryz.prog 99 #[.slice a n c] h (fun v h'=>SrtP xs v∧h'=h):=by
  have hn:=I.len
  (refine ze Tryz.func99 rfl bod99 ?_; simp only [Tryz.ntmps99,Tryz.results99,za,zh,splice,Value.cells,Value.oneCell',Nat.reduceAdd,Nat.reduceSub,Nat.reduceMul,Nat.reduceLeDiff,Int.reduceEq,Nat.reduceEqDiff,zdv])
  refine⟨by rw [zf]; omega,?_⟩
  refine zo [2,3,7,8,9,10,11,12,13,14,15,16,17,18,19,20] (fun e h'=>h'=h∧∃ i:Int,e 3=.int .i64 i∧-1≤i∧i<n∧∀ j:Nat,i≤j→j+1<n→xs.getD j 0≤xs.getD (j+1) 0) (fun e _=>match e 3 with | .int _ q=>(q+1).toNat | _=>0) ⟨rfl,(n:Int) - 1,rfl,by omega,by omega,fun j h1 h2=>by omega⟩ ?_
  rintro e h1 ⟨rfl,i,he,hi0,hin,hs⟩
  by_cases hi:0<i
  case neg=>
    simp only [he,hi,decide_false,za,Value.cells,Value.oneCell',Nat.reduceAdd,Nat.reduceSub,Nat.reduceMul,Nat.reduceLeDiff,Int.reduceEq,Nat.reduceEqDiff,zdv]
    have hr:SrtP xs (.bool true):=⟨true,rfl,⟨fun _ j hj=>hs j (by omega) (by omega),fun _=>rfl⟩⟩
    first | exact hr | exact⟨hr,rfl⟩
  obtain⟨t,rfl⟩:∃ t:Nat,i=((t+1:Nat):Int):=⟨(i - 1).toNat,by omega⟩
  have c1:=I.cell (j:=t+1) (by omega)
  have c0:=I.cell (j:=t) (by omega)
  have sa:=I.isSome (by omega)
  have et:((t+1:Nat):Int) - 1=(t:Int):=by omega
  simp only [he,hi,decide_true,za,Value.cells,Value.oneCell',Nat.reduceAdd,Nat.reduceSub,Nat.reduceMul,Nat.reduceLeDiff,Int.reduceEq,Nat.reduceEqDiff,zdv]
  refine zoe (by kernel_rfl) zaM (.quiet 0 (.quiet 1 (.quiet 2 (.quiet 3 (.quiet 4 (.quiet 5 (.quiet 6 (.quiet 7 (.quiet 8 (.keep 9 (.fin))))))))))) (by kernel_rfl) rfl (by kernel_rfl) ?_
  simp only [he,c1,c0,et,Int.toNat_natCast,za,Value.cells,Value.oneCell',Nat.reduceAdd,Nat.reduceSub,Nat.reduceMul,Nat.reduceLeDiff,Int.reduceEq,Nat.reduceEqDiff,zx,za5,zdv]
  refine⟨by omega,sa,by rw [zf]; omega,by omega,sa,?_⟩
  refine znE ?_
  simp only [za,Value.cells,Value.oneCell',Nat.reduceAdd,Nat.reduceSub,Nat.reduceMul,Nat.reduceLeDiff,Int.reduceEq,Nat.reduceEqDiff,zx,za5,zdv]
  refine zb.mono (less130 _ _ h1) ?_
  rintro v h2 ⟨rfl,rfl⟩
  refine⟨rfl,?_⟩
  try simp only [za,Value.cells,Value.oneCell',Nat.reduceAdd,Nat.reduceSub,Nat.reduceMul,Nat.reduceLeDiff,Int.reduceEq,Nat.reduceEqDiff,zx,za5,zdv]
  refine zp6 ?_
  by_cases hlt:xs.getD (t+1) 0<xs.getD t 0
  · simp only [he,hlt,decide_true,za,Value.cells,Value.oneCell',Nat.reduceAdd,Nat.reduceSub,Nat.reduceMul,Nat.reduceLeDiff,Int.reduceEq,Nat.reduceEqDiff,zdv]
    have hr:SrtP xs (.bool false):=⟨false,rfl,⟨fun h=>(by cases h),fun h=>(by have:=h t (by omega); omega)⟩⟩
    first | exact hr | exact⟨hr,rfl⟩
  · simp only [he,hlt,et,decide_false,za,Value.cells,Value.oneCell',Nat.reduceAdd,Nat.reduceSub,Nat.reduceMul,Nat.reduceLeDiff,Int.reduceEq,Nat.reduceEqDiff,zdv]
    refine⟨by rw [zf]; omega,zi (by kernel_rfl) ⟨rfl,t,rfl,by omega,by omega,fun j h1 h2=>?_⟩ ?_⟩
    · by_cases hj:j=t
      · subst hj; omega
      · exact hs j (by omega) h2
    · show ((t:Int)+1).toNat<(((t+1:Nat):Int)+1).toNat
      omega
theorem grow134 (k:Nat)(hk2:k≤100000)(h:Eng.Heap):zb Tryz.prog 134 #[.slice none 0 0,.int .i64 k] h (fun v h'=>(∃ a cap,v=.slice a 0 cap∧OwnI h.size h' 3 a 0 cap [])∧Ext h h'):=by
  have h0:¬ ((k:Nat):Int)<0:=by omega
  have h2:(k:Int) - 0=(k:Nat):=by omega
  have h3:(((0:Nat):Int) - ((0:Nat):Int))=0:=rfl
  have h4:((0:Nat):Int)=0:=rfl
  (refine ze Tryz.func134 rfl bod134 ?_; simp only [Tryz.ntmps134,Tryz.results134,za,zh,splice,Value.cells,Value.oneCell',Nat.reduceAdd,Nat.reduceSub,Nat.reduceMul,Nat.reduceLeDiff,Int.reduceEq,Nat.reduceEqDiff,zdW])
  simp only [h0,h2,decide_true,decide_false,za,Value.cells,Value.oneCell',Nat.reduceAdd,Nat.reduceSub,Nat.reduceMul,Nat.reduceLeDiff,Int.reduceEq,Nat.reduceEqDiff,zdW]
  rw [zfp]
  refine capG Tryz.underlying40 rfl ?_
  by_cases hk:0<k
  case neg=>
    obtain rfl:k=0:=by omega
    simp only [h3,h4,show ¬ ((0:Int)<0) by omega,Int.sub_zero,decide_false,za,Value.cells,Value.oneCell',Nat.reduceAdd,Nat.reduceSub,Nat.reduceMul,Nat.reduceLeDiff,Int.reduceEq,Nat.reduceEqDiff,zdW]
    exact⟨by rw [zf]; omega,by rw [zf]; omega,⟨none,0,rfl,OwnI.nil _ _ _⟩,Ext.refl _⟩
  have h1:(0:Int)<((k:Nat):Int):=by omega
  simp only [h3,h2,h1,decide_true,za,Value.cells,Value.oneCell',Nat.reduceAdd,Nat.reduceSub,Nat.reduceMul,Nat.reduceLeDiff,Int.reduceEq,Nat.reduceEqDiff,zdW]
  refine⟨by rw [zf]; omega,by rw [zf]; omega,?_⟩
  rw [zfp]
  refine capG Tryz.underlying40 rfl ?_
  simp only [h3,h4,h2,h1,decide_true,za,Value.cells,Value.oneCell',Nat.reduceAdd,Nat.reduceSub,Nat.reduceMul,Nat.reduceLeDiff,Int.reduceEq,Nat.reduceEqDiff,zdW]
  refine⟨by omega,by omega,by omega,by omega,?_⟩
  refine zf0 (h0:=h.size) (s:=1) (len:=0) (cap:=0) (k:=k) (olds:=[]) Tryz.underlying40 Tryz.underlying3 inf3 sz3 zbH rfl (by omega) rfl rfl (.inl rfl) rfl hk (by omega) (by omega) (by rw [by3]; omega) (Nat.le_refl _) fun c2 h2' zs hz O x=>?_
  have hcap:=O.cap
  simp only [h3,h4,za,Value.cells,Value.oneCell',Nat.reduceAdd,Nat.reduceSub,Nat.reduceMul,Nat.reduceLeDiff,Int.reduceEq,Nat.reduceEqDiff,zdW]
  refine⟨by omega,by omega,by omega,by omega,⟨some ⟨h.size,0,none⟩,c2,by simp,?_⟩,x⟩
  rcases O.ok with⟨e,_⟩ | ⟨g,cur,e,o1,o2,o3,o4,o5⟩
  · cases e
  · exact⟨rfl,.inr ⟨g,cur,e,o1,o2,by omega,by omega,by simp [ints]⟩⟩
theorem zbp {gs:List (List Int)}{i:Nat}(hi:i<gs.length):(gs.take (i+1)).flatten=(gs.take i).flatten++gs.getD i []:=by
  rw [List.take_add_one,List.getElem?_eq_getElem hi,List.flatten_append,List.getD_eq_getElem?_getD,List.getElem?_eq_getElem hi]
  simp
theorem zcu {gs:List (List Int)}(i:Nat):(gs.take i).flatten.length≤gs.flatten.length:=by
  have h:=congrArg List.length (congrArg List.flatten (List.take_append_drop i gs))
  rw [List.flatten_append,List.length_append] at h
  omega
theorem zrq (b:Option Addr)(n c:Nat)(T:List Hd)(gs:List (List Int))(h:Eng.Heap)(R:Row h b (hdsV T))(L:Lss h T gs)(hn:n=gs.length)(hl:gs.flatten.length≤1000)(hnl:n≤1000000) :
    zb Tryz.prog 102 #[.slice b n c] h (fun v h'=>NewI h.size h' 3 v gs.flatten∧Ext h h'):=by
  have hT:=L.len
  (refine ze Tryz.func102 rfl bod102 ?_; simp only [Tryz.ntmps102,Tryz.results102,za,zh,splice,Value.cells,Value.oneCell',Nat.reduceAdd,Nat.reduceSub,Nat.reduceMul,Nat.reduceLeDiff,Int.reduceEq,Nat.reduceEqDiff,zc7])
  refine zo [3,5,11,12,13,14,15,16,17,18,19,20,21,22] (fun e h'=>h'=h∧∃ i:Nat,i≤n∧e 11=.int .i64 i∧e 3=.int .i64 ((gs.take i).flatten.length:Nat)) (fun e _=>match e 11 with | .int _ q=>n - q.toNat | _=>0) ⟨rfl,0,by omega,rfl,rfl⟩ ?_
  rintro e h' ⟨rfl,i,hi,he,he3⟩
  by_cases hin:i<n
  · have hlt:(i:Int)<(n:Int):=by omega
    have meas:n - ((i:Int)+1).toNat<n - (i:Int).toNat:=by omega
    have hc:=zbw R (j:=i) (by omega)
    have sb:=R.isSome (by rw [zF]; omega)
    have hI:=(L.each i (by omega)).len
    have hnx:=congrArg List.length (zbp (gs:=gs) (i:=i) (by omega))
    rw [List.length_append,← hI] at hnx
    have hb1:=zcu (gs:=gs) (i+1)
    have t1:¬ (((gs.take i).flatten.length:Nat):Int)+(((T.getD i (none,0,0)).2.1:Nat):Int)<0:=by omega
    simp only [he,he3,hlt,hc,t1,decide_true,decide_false,Int.toNat_natCast,za,Value.cells,Value.oneCell',Nat.reduceAdd,Nat.reduceSub,Nat.reduceMul,Nat.reduceLeDiff,Int.reduceEq,Nat.reduceEqDiff,zc7]
    refine⟨by omega,sb,by rw [zf]; omega,by rw [zf]; omega,zi (by kernel_rfl) ⟨rfl,i+1,by omega,rfl,?_⟩ meas⟩
    rw [hnx]; push_cast; rfl
  obtain rfl:n=i:=by omega
  simp only [he,he3,show ¬ ((n:Int)<(n:Int)) by omega,decide_false,za,Value.cells,Value.oneCell',Nat.reduceAdd,Nat.reduceSub,Nat.reduceMul,Nat.reduceLeDiff,Int.reduceEq,Nat.reduceEqDiff,zc7]
  rw [List.take_of_length_le (by omega)]
  refine zb.mono (grow134 gs.flatten.length (by omega) h') ?_
  rintro v h1 ⟨⟨a3,c3,rfl,O3⟩,x3⟩
  simp only [za,Value.cells,Value.oneCell',Nat.reduceAdd,Nat.reduceSub,Nat.reduceMul,Nat.reduceLeDiff,Int.reduceEq,Nat.reduceEqDiff,zc7]
  refine zo [6,8,27,28,29,30,31,32,33,34] (fun e h''=>Ext h' h''∧∃ i:Nat,i≤n∧e 27=.int .i64 i∧∃ a4 c4,e 6=.slice a4 (gs.take i).flatten.length c4∧OwnI h'.size h'' 3 a4 (gs.take i).flatten.length c4 (gs.take i).flatten) (fun e _=>match e 27 with | .int _ q=>n - q.toNat | _=>0) ⟨x3,0,by omega,rfl,a3,c3,rfl,O3⟩ ?_
  rintro e4 h4 ⟨x4,i,hi,he4,a4,c4,he6,O4⟩
  by_cases hin:i<n
  · have hlt:(i:Int)<(n:Int):=by omega
    have meas:n - ((i:Int)+1).toNat<n - (i:Int).toNat:=by omega
    have hc:=zbw (R.ext x4) (j:=i) (by omega)
    have sb:=R.isSome (by rw [zF]; omega)
    have hI:=(L.each i (by omega)).len
    have hnf:=zbp (gs:=gs) (i:=i) (by omega)
    have hnx:=congrArg List.length hnf
    rw [List.length_append,← hI] at hnx
    have hb1:=zcu (gs:=gs) (i+1)
    simp only [he4,he6,hlt,hc,decide_true,Int.toNat_natCast,za,Value.cells,Value.oneCell',Nat.reduceAdd,Nat.reduceSub,Nat.reduceMul,Nat.reduceLeDiff,Int.reduceEq,Nat.reduceEqDiff,zc7]
    refine⟨by omega,sb,?_⟩
    refine ziQ (m0:=h'.size) rfl rfl O4 x4.size ((L.each i (by omega)).ext x4) (by omega) fun a5 c5 h5 O5 A5=>?_
    rw [← hnf,← hnx] at O5
    simp only [he4,za,Value.cells,Value.oneCell',Nat.reduceAdd,Nat.reduceSub,Nat.reduceMul,Nat.reduceLeDiff,Int.reduceEq,Nat.reduceEqDiff,zc7]
    exact⟨by rw [zf]; omega,zi (by kernel_rfl) ⟨A5.extN O4 x4 (Nat.le_refl _),i+1,by omega,rfl,a5,c5,by rw [hnx]; rfl,O5⟩ meas⟩
  obtain rfl:n=i:=by omega
  rw [List.take_of_length_le (by omega)] at O4 he6
  simp only [he4,he6,show ¬ ((n:Int)<(n:Int)) by omega,decide_false,za,Value.cells,Value.oneCell',Nat.reduceAdd,Nat.reduceSub,Nat.reduceMul,Nat.reduceLeDiff,Int.reduceEq,Nat.reduceEqDiff,zc7]
  exact⟨⟨a4,c4,rfl,O4⟩,x4⟩
end Go.Proofs.YtepaekbjoombpaaGreatDoor
end
section
namespace Go.Proofs.YtepaekbjoombpaaGreatDoor
open Go Go.Proofs Go.Eng Go.Run Tab
set_option maxRecDepth 100000
set_option linter.unusedSimpArgs false
set_option linter.unusedVariables false
set_option linter.defProp false
set_option maxHeartbeats 4000000
set_option linter.defProp false
def zaJ:=(And.intro (And.intro (And.intro (And.intro @zeU @agg2) (And.intro @zbV (And.intro @agg3 @zcq))) (And.intro (And.intro @by3 (And.intro @by40 @ze7)) (And.intro @inf2 (And.intro @zbS @inf3)))) (And.intro (And.intro (And.intro @zbW @zhb) (And.intro @sz2 (And.intro @sz24 @sz3))) (And.intro (And.intro @sz40 (And.intro @zdZ @zbH)) (And.intro @Tryz.underlying40 (And.intro @Tryz.underlying73 @Tryz.underlying104)))))
theorem zkJ {es:List En}{day:Int}{g:List Int}{j:Nat}(hj:j<g.length):sumG es day (g.take (j+1))=sumG es day (g.take j)+balA es day (g.getD j 0):=by
  unfold sumG
  rw [List.take_add_one,List.getElem?_eq_getElem hj,List.getD_eq_getElem?_getD,List.getElem?_eq_getElem hj,List.map_append,List.sum_append]
  simp
theorem zcJ {k:Nat}{es:List En}{day:Int}(hl:es.length≤20)(hok:∀ e∈es,okE k e):∀ g:List Int,-(20000*(g.length:Int))≤sumG es day g∧sumG es day g≤20000*(g.length:Int)
  | []=>by simp [sumG]
  | x::g=>by
    have ih:=zcJ (day:=day) hl hok g
    have h1:=zbG day x hok
    have e:sumG es day (x::g)=balA es day x+sumG es day g:=by
      unfold sumG
      rw [List.map_cons,List.sum_cons]
    rw [e,List.length_cons]
    omega
structure Pto (gs:List (List Int))(i:Nat):Prop where
  ne:∀ j,j<i→gs.getD j []≠[]∧adjE (gs.getD j [])
  one:0<i→-1<(hds gs).getD 0 0
  up:∀ j,j+1<i→(hds gs).getD j 0<(hds gs).getD (j+1) 0
theorem Pto.fin {gs:List (List Int)}(P:Pto gs gs.length):prg gs:=⟨fun g hg=>by
    obtain⟨j,hj,rfl⟩:=List.mem_iff_getElem.1 hg
    have:=P.ne j hj
    rwa [List.getD_eq_getElem?_getD,List.getElem?_eq_getElem hj] at this,fun h=>P.one h,fun j hj=>P.up j (by rwa [zdS] at hj)⟩
def zev (gs:List (List Int))(i:Nat):Int:=if i=0 then -1 else (hds gs).getD (i - 1) 0
theorem Pto.next {gs:List (List Int)}{i:Nat}(P:Pto gs i)(hi:i<gs.length)(h1:gs.getD i []≠[])(h2:adjE (gs.getD i []))(h3:zev gs i<(gs.getD i []).getD 0 0):Pto gs (i+1):=by
  have e:(hds gs).getD i 0=(gs.getD i []).getD 0 0:=by
    rw [zeP hi,List.getD_eq_getElem?_getD (l:=gs),List.getElem?_eq_getElem hi]; rfl
  rw [← e] at h3
  refine⟨fun j hj=>?_,fun _=>?_,fun j hj=>?_⟩
  · by_cases hji:j=i
    · subst hji; exact⟨h1,h2⟩
    · exact P.ne j (by omega)
  · by_cases h0:i=0
    · subst h0; exact h3
    · exact P.one (by omega)
  · by_cases hji:j+1=i
    · subst hji
      rw [zev,if_neg (by omega)] at h3
      exact h3
    · exact P.up j (by omega)
theorem prg_at {gs:List (List Int)}(h:prg gs){i:Nat}(hi:i<gs.length):gs.getD i []≠[]∧adjE (gs.getD i [])∧zev gs i<(gs.getD i []).getD 0 0:=by
  obtain⟨h1,h2,h3⟩:=h
  have e:gs.getD i []=gs[i]:=by rw [List.getD_eq_getElem?_getD,List.getElem?_eq_getElem hi]; rfl
  have e2:=zeP hi
  obtain⟨k1,k2⟩:=h1 gs[i] (List.getElem_mem hi)
  rw [e]
  refine⟨k1,k2,?_⟩
  rw [← e2]
  unfold zev
  by_cases h0:i=0
  · subst h0; rw [if_pos rfl]; exact h2 hi
  · rw [if_neg h0]
    obtain⟨t,rfl⟩:∃ t,i=t+1:=⟨i - 1,by omega⟩
    exact h3 t (by rw [zdS]; exact hi)
theorem zjH (xs:List Int):(nz (opL8 xs 8)).Pairwise (·<·):=zb4.1 (nz_adj (opL8_lt xs))
theorem zn6 (xs:List Int):∀ x∈nz (opL8 xs 8),0≤x:=fun x hx=>by
  unfold nz at hx
  obtain⟨i,_,rfl⟩:=List.mem_map.1 hx
  omega
theorem shp_prg1 {xs:List Int}{gs:List (List Int)}(h:shp (nz (opL8 xs 8)) gs):prg gs:=by
  obtain⟨p1,p2⟩:=zmp gs.flatten
  exact ((zoA (zjH xs) (zn6 xs) p1 p2).2 h).1
theorem groups51 (acc cl:Int)(a:Option Addr)(n c:Nat)(es:List En)(day:Int)(b:Option Addr)(m d:Nat)(T:List Hd)(gs:List (List Int))(h:Eng.Heap)(hr:Row h a (ensV es))(hn:n=es.length)(hl:n≤1000000)(R:Row h b (hdsV T))(L:Lss h T gs)(hm:m=gs.length)(hml:m≤1000000)(hfl:gs.flatten.length≤1000) :
    zb Tryz.prog 51 #[.agg #[.int .i64 acc,.int .i64 cl,.slice a n c],.int .i64 day,.slice b m d] h (fun v h'=>v=cgrV acc cl es day gs∧Ext h h'):=by
  have hT:=L.len
  (refine ze Tryz.func51 rfl bod51 ?_; simp only [Tryz.ntmps51,Tryz.results51,za,zh,splice,Value.cells,Value.oneCell',Nat.reduceAdd,Nat.reduceSub,Nat.reduceMul,Nat.reduceLeDiff,Int.reduceEq,Nat.reduceEqDiff,zaJ])
  have q0:=zu (h:=h) (o:=.cells #[.int .i64 acc,.int .i64 cl,.slice a n c] 24)
  refine zb.mono (zfb acc cl a n c es _ 1 1 [day] _ ((hr.push _).push _) hn hl (zaB pn1) (by omega)) ?_
  rintro v h1 ⟨x1,H⟩
  have y1:=x1.of_push.of_push
  rcases H with⟨e0,g,rfl,hg,hsz⟩ | ⟨e0,rfl⟩
  case inr=>
    simp only [e0,decide_false,Bool.not_false,za,Value.cells,Value.oneCell',Nat.reduceAdd,Nat.reduceSub,Nat.reduceMul,Nat.reduceLeDiff,Int.reduceEq,Nat.reduceEqDiff,zaJ]
    refine⟨?_,y1⟩
    unfold cgrV cgr
    rw [if_pos e0]
  obtain⟨hc,hd⟩:=zbZ e0
  obtain⟨ha,hl2,hcl,hok,hso,hft⟩:=zbX hc
  obtain⟨k,rfl⟩:∃ k:Nat,acc=k:=⟨acc.toNat,by omega⟩
  have n0:¬ (opn k cl es [day]≠0):=by simpa using e0
  have hbad:¬ shp (nz (opL8 (bals 8 es day) 8)) gs→Value.tuple #[.int .i64 0,.int .i64 16]=cgrV k cl es day gs:=fun hh=>by
    unfold cgrV cgr
    rw [if_neg n0,if_pos hh]
  simp only [za,Value.cells,Value.oneCell',Nat.reduceAdd,Nat.reduceSub,Nat.reduceMul,Nat.reduceLeDiff,Int.reduceEq,Nat.reduceEqDiff,zaJ]
  refine zb.mono (zcQ g k cl a n c es day h1 hg (hr.ext y1) hn (by omega) hok ha.2 hft) ?_
  rintro v h4 ⟨rfl,x4⟩
  have y4:=y1.trans x4
  obtain⟨xs,hxs⟩:∃ xs,xs=bals 8 es day:=⟨_,rfl⟩
  have hxl:xs.length=8:=by rw [hxs,zm]
  rw [← hxs] at hbad ⊢
  obtain⟨b0,b1,b2,b3,b4,b5,b6,b7,h8⟩:∃ b0 b1 b2 b3 b4 b5 b6 b7:Int,xs=[b0,b1,b2,b3,b4,b5,b6,b7]:=by
    match xs,hxl with
    | [b0,b1,b2,b3,b4,b5,b6,b7],_=>exact⟨b0,b1,b2,b3,b4,b5,b6,b7,rfl⟩
  have h9:(ints xs).toArray=#[.int .i64 b0,.int .i64 b1,.int .i64 b2,.int .i64 b3,.int .i64 b4,.int .i64 b5,.int .i64 b6,.int .i64 b7]:=by rw [h8]; rfl
  rw [h9]
  simp only [za,zh,splice,Value.cells,Value.oneCell',Nat.reduceAdd,Nat.reduceSub,Nat.reduceMul,Nat.reduceLeDiff,Int.reduceEq,Nat.reduceEqDiff,zaJ]
  rw [← h9]
  have q5:=zu (h:=h4) (o:=.cells (ints xs).toArray 104)
  have xq:Ext h4 (h4.push (.cells (ints xs).toArray 104)):=(Ext.refl h4).push _
  refine zo [6,7,11,13,35,36,37,38,39,40,41,42,43,44,45,46,47,48,49,50,51,52,53,54,55,56,57] (fun e h'=>h'=h4.push (.cells (ints xs).toArray 104)∧∃ i:Nat,i≤m∧e 35=.int .i64 i∧e 11=.int .i64 (zev gs i)∧Pto gs i) (fun e _=>match e 35 with | .int _ q=>m - q.toNat | _=>0) ⟨rfl,0,by omega,rfl,rfl,⟨fun j hj=>by omega,fun hj=>by omega,fun j hj=>by omega⟩⟩ ?_
  rintro e5 h5 ⟨h5e,i,hi,he5,he11,P⟩
  rw [← h5e] at q5
  have x5:Ext h4 h5:=by rw [h5e]; exact xq
  have y5:=y4.trans x5
  by_cases him:i<m
  case pos=>
    have hlt:(i:Int)<(m:Int):=by omega
    have meas:m - ((i:Int)+1).toNat<m - (i:Int).toNat:=by omega
    have hcell:=zbw (R.ext y5) (j:=i) (by omega)
    have sb:=R.isSome (by rw [zF]; omega)
    have hI:=(L.each i (by omega)).ext y5
    obtain⟨t,ht⟩:∃ t,t=T.getD i (none,0,0):=⟨_,rfl⟩
    obtain⟨u,hu⟩:∃ u,u=gs.getD i []:=⟨_,rfl⟩
    rw [← ht] at hcell hI
    rw [← hu] at hI
    have hul:=hI.len
    have hui:u.length≤1000:=by
      have h1:=zbp (gs:=gs) (i:=i) (by omega)
      have h2:=zcu (gs:=gs) (i+1)
      rw [h1,List.length_append,← hu] at h2
      omega
    have hno:(u≠[]∧adjE u∧zev gs i<u.getD 0 0→False)→(Value.tuple #[.int .i64 0,.int .i64 16]=cgrV k cl es day gs∧Ext h h5):=fun hh=>⟨hbad fun hs=>hh (by rw [hu]; exact prg_at (shp_prg1 hs) (by omega)),y5⟩
    by_cases c1:u=[]
    · have z1:((t.2.1:Nat):Int)=0:=by rw [c1] at hul; simp at hul; omega
      simp only [he5,he11,hlt,hcell,z1,zO,zU,decide_true,Int.toNat_natCast,za,Value.cells,Value.oneCell',Nat.reduceAdd,Nat.reduceSub,Nat.reduceMul,Nat.reduceLeDiff,Int.reduceEq,Nat.reduceEqDiff,zaJ]
      exact⟨by omega,sb,hno fun hh=>hh.1 c1⟩
    have hu0:0<u.length:=List.length_pos_iff.2 c1
    have z1:¬ ((t.2.1:Nat):Int)=0:=by omega
    have st:=hI.isSome (by omega)
    have c0:=hI.cell (j:=0) hu0
    rw [zbC] at c0
    have z0:((0:Int)).toNat=0:=rfl
    by_cases c2:u.getD 0 0≤zev gs i
    · simp only [he5,he11,hlt,hcell,z1,z0,zbC,c0,c2,zO,zU,decide_true,decide_false,Int.toNat_natCast,za,Value.cells,Value.oneCell',Nat.reduceAdd,Nat.reduceSub,Nat.reduceMul,Nat.reduceLeDiff,Int.reduceEq,Nat.reduceEqDiff,zaJ]
      exact⟨by omega,sb,by omega,st,hno fun hh=>by have:=hh.2.2; omega⟩
    simp only [he5,he11,hlt,hcell,z1,z0,zbC,c0,c2,zO,zU,decide_true,decide_false,Int.toNat_natCast,za,Value.cells,Value.oneCell',Nat.reduceAdd,Nat.reduceSub,Nat.reduceMul,Nat.reduceLeDiff,Int.reduceEq,Nat.reduceEqDiff,zaJ]
    refine⟨by omega,sb,by omega,st,?_⟩
    refine zb.mono (zpN t.1 t.2.1 t.2.2 u h5 hI (by omega)) ?_
    rintro v h6 ⟨⟨bo,rfl,hbo⟩,rfl⟩
    cases bo with
    | false=>
      simp only [Bool.not_false,za,Value.cells,Value.oneCell',Nat.reduceAdd,Nat.reduceSub,Nat.reduceMul,Nat.reduceLeDiff,Int.reduceEq,Nat.reduceEqDiff,zaJ]
      exact hno fun hh=>by have:=hbo.2 hh.2.1; cases this
    | true=>
      simp only [he5,z0,zbC,c0,Bool.not_true,za,Value.cells,Value.oneCell',Nat.reduceAdd,Nat.reduceSub,Nat.reduceMul,Nat.reduceLeDiff,Int.reduceEq,Nat.reduceEqDiff,zaJ]
      refine⟨by omega,st,by rw [zf]; omega,zi (by kernel_rfl) ⟨h5e,i+1,by omega,rfl,?_,P.next (by omega) (by rw [← hu]; exact c1) (by rw [← hu]; exact hbo.1 rfl) (by rw [← hu]; omega)⟩ meas⟩
      show Value.int .i64 (u.getD 0 0)=_
      rw [zev,if_neg (by omega),Nat.add_sub_cancel,zeP (by omega),hu,List.getD_eq_getElem?_getD (l:=gs),List.getElem?_eq_getElem (by omega)]
      rfl
  obtain rfl:m=i:=by omega
  rw [hm] at P
  have hprg:=P.fin
  simp only [he5,show ¬ ((m:Int)<(m:Int)) by omega,decide_false,za,Value.cells,Value.oneCell',Nat.reduceAdd,Nat.reduceSub,Nat.reduceMul,Nat.reduceLeDiff,Int.reduceEq,Nat.reduceEqDiff,zaJ]
  refine zb.mono (zrq b m d T gs h5 (R.ext y5) (L.ext y5) hm hfl hml) ?_
  rintro v h6 ⟨⟨a6,c6,rfl,O6⟩,x6⟩
  simp only [za,Value.cells,Value.oneCell',Nat.reduceAdd,Nat.reduceSub,Nat.reduceMul,Nat.reduceLeDiff,Int.reduceEq,Nat.reduceEqDiff,zaJ]
  refine zb.mono (zrf a6 gs.flatten.length c6 h6) ?_
  rintro v h7 ⟨rfl,rfl⟩
  have x7:Ext h6 (h6.push (.cells #[.slice a6 gs.flatten.length c6] 40)):=(Ext.refl h6).push _
  simp only [za,Value.cells,Value.oneCell',Nat.reduceAdd,Nat.reduceSub,Nat.reduceMul,Nat.reduceLeDiff,Int.reduceEq,Nat.reduceEqDiff,zaJ]
  refine zb.mono (zrN _ gs.flatten _ (zpw (bx:=h6.size) (a:=a6) (c:=c6) rfl (by omega)) hfl fun h' x=>⟨x.get zu,(O6.ints.ext x7).ext x⟩) ?_
  rintro v h8' ⟨x8,ys,hp,hs,a8,c8,rfl,O8⟩
  have y8:=((y5.trans x6).trans x7).trans x8
  have q8:=x8.get (x7.get (x6.get q5))
  have ec:cesO (some (Obj.cells (ints xs).toArray 104 (0,0))) 0 8=some (ints xs):=by
    simp only [cesO]
    rw [if_pos (by simp [zl]; omega),List.drop_zero,List.take_of_length_le (by rw [zl]; omega)]
  simp only [q8,ec,za,Value.cells,Value.oneCell',Nat.reduceAdd,Nat.reduceSub,Nat.reduceMul,Nat.reduceLeDiff,Int.reduceEq,Nat.reduceEqDiff,zaJ]
  refine zb.mono (zlB xs hxl h8') ?_
  rintro v h9' ⟨⟨aO,cO,rfl,OO⟩,x9⟩
  simp only [za,Value.cells,Value.oneCell',Nat.reduceAdd,Nat.reduceSub,Nat.reduceMul,Nat.reduceLeDiff,Int.reduceEq,Nat.reduceEqDiff,zaJ]
  have hOl:=zbx xs 8
  have hyl:=hp.length_eq
  refine zb.mono (equal103 a8 aO ys.length c8 (opL8 xs 8).length cO ys (nz (opL8 xs 8)) h9' (O8.ints.ext x9) OO.ints (by omega) (by omega)) ?_
  rintro v h10 ⟨rfl,rfl⟩
  have key:=zoA (zjH xs) (zn6 xs) hp hs
  have y9:=y8.trans x9
  by_cases heq:ys=nz (opL8 xs 8)
  case neg=>
    rw [decide_eq_false heq]
    simp only [Bool.not_false,za,Value.cells,Value.oneCell',Nat.reduceAdd,Nat.reduceSub,Nat.reduceMul,Nat.reduceLeDiff,Int.reduceEq,Nat.reduceEqDiff,zaJ]
    exact⟨hbad fun hh=>heq (key.2 hh).2,y9⟩
  have hshp:=key.1 ⟨hprg,heq⟩
  rw [decide_eq_true heq]
  have hmem:∀ j,j<gs.length→∀ x∈gs.getD j [],∃ i:Nat,x=i∧i<8:=fun j hj x hx=>by
    have h1:x∈gs.flatten:=List.mem_flatten.2 ⟨gs.getD j [],by rw [List.getD_eq_getElem?_getD,List.getElem?_eq_getElem hj]; exact List.getElem_mem hj,hx⟩
    have h2:=hp.mem_iff.2 h1
    rw [heq] at h2
    unfold nz at h2
    obtain⟨i,hi,rfl⟩:=List.mem_map.1 h2
    exact⟨i,rfl,(zbD.1 hi).1⟩
  have q9:=x9.get q8
  simp only [Bool.not_true,za,Value.cells,Value.oneCell',Nat.reduceAdd,Nat.reduceSub,Nat.reduceMul,Nat.reduceLeDiff,Int.reduceEq,Nat.reduceEqDiff,zaJ]
  refine zo [6,7,16,17,19,69,70,71,72,73,74,75,76,77,78,79,80,81,82,83,84,85,86,87] (fun e h'=>h'=h10∧∃ i:Nat,i≤m∧e 69=.int .i64 i∧∀ j,j<i→sumG es day (gs.getD j [])=0) (fun e _=>match e 69 with | .int _ q=>m - q.toNat | _=>0) ⟨rfl,0,by omega,rfl,fun j hj=>by omega⟩ ?_
  rintro e11 h11 ⟨rfl,i,hi,he11',hz⟩
  by_cases him:i<m
  case neg=>
    obtain rfl:m=i:=by omega
    simp only [he11',show ¬ ((m:Int)<(m:Int)) by omega,decide_false,za,Value.cells,Value.oneCell',Nat.reduceAdd,Nat.reduceSub,Nat.reduceMul,Nat.reduceLeDiff,Int.reduceEq,Nat.reduceEqDiff,zaJ]
    refine⟨?_,y9⟩
    unfold cgrV
    rw [zlz e0 (by rw [← hxs]; exact hshp) fun g hg=>?_,hm]
    obtain⟨j,hj,rfl⟩:=List.mem_iff_getElem.1 hg
    have:=hz j (by omega)
    rwa [List.getD_eq_getElem?_getD,List.getElem?_eq_getElem hj] at this
  have hlt:(i:Int)<(m:Int):=by omega
  have meas:m - ((i:Int)+1).toNat<m - (i:Int).toNat:=by omega
  have hcell:=zbw (R.ext y9) (j:=i) (by omega)
  have sb:=R.isSome (by rw [zF]; omega)
  have hI:=(L.each i (by omega)).ext y9
  have hme:=hmem i (by omega)
  obtain⟨t,ht⟩:∃ t,t=T.getD i (none,0,0):=⟨_,rfl⟩
  obtain⟨u,hu⟩:∃ u,u=gs.getD i []:=⟨_,rfl⟩
  rw [← ht] at hcell hI
  rw [← hu] at hI hme
  have hul:=hI.len
  have hui:u.length≤1000:=by
    have h1:=zbp (gs:=gs) (i:=i) (by omega)
    have h2:=zcu (gs:=gs) (i+1)
    rw [h1,List.length_append,← hu] at h2
    omega
  simp only [he11',hlt,hcell,decide_true,Int.toNat_natCast,za,Value.cells,Value.oneCell',Nat.reduceAdd,Nat.reduceSub,Nat.reduceMul,Nat.reduceLeDiff,Int.reduceEq,Nat.reduceEqDiff,zaJ]
  refine⟨by omega,sb,?_⟩
  refine zo [17,19,75,76,77,78,79,80,81,82,83,84] (fun e h'=>h'=h11∧∃ j:Nat,j≤u.length∧e 75=.int .i64 j∧e 17=.int .i64 (sumG es day (u.take j))) (fun e _=>match e 75 with | .int _ q=>u.length - q.toNat | _=>0) ⟨rfl,0,by omega,rfl,rfl⟩ ?_
  rintro e12 h12 ⟨rfl,j,hj,he12,he17⟩
  by_cases hju:j<u.length
  · have hltj:(j:Int)<((t.2.1:Nat):Int):=by omega
    have measj:u.length - ((j:Int)+1).toNat<u.length - (j:Int).toNat:=by omega
    have cj:=hI.cell (j:=j) hju
    have st:=hI.isSome (by omega)
    obtain⟨x,hx,hx8⟩:=hme (u.getD j 0) (by rw [List.getD_eq_getElem?_getD,List.getElem?_eq_getElem hju]; exact List.getElem_mem hju)
    have ce:(ints xs)[x]?=some (.int .i64 (xs.getD x 0)):=ints_getElem? _ _ (by omega)
    have hnx:=zkJ (es:=es) (day:=day) hju
    have hb1:=zcJ (day:=day) hl2 hok (u.take j)
    have hb2:=zcJ (day:=day) hl2 hok (u.take (j+1))
    rw [List.length_take] at hb1 hb2
    have hxg:xs.getD x 0=balA es day (u.getD j 0):=by rw [hxs,zL es day hx8,hx]
    rw [hx] at cj
    rw [hx] at hxg hnx
    simp only [he12,he17,hltj,cj,q9,ce,hxg,decide_true,Int.toNat_natCast,za,Value.cells,Value.oneCell',Nat.reduceAdd,Nat.reduceSub,Nat.reduceMul,Nat.reduceLeDiff,Int.reduceEq,Nat.reduceEqDiff,zaJ]
    refine⟨by omega,st,⟨by omega,by omega⟩,by rw [zf]; omega,by rw [zf]; omega,zi (by kernel_rfl) ⟨rfl,j+1,by omega,rfl,?_⟩ measj⟩
    rw [hnx]; rfl
  obtain rfl:j=u.length:=by omega
  rw [List.take_length] at he17
  have hltj:¬ ((u.length:Nat):Int)<((t.2.1:Nat):Int):=by omega
  by_cases hz0:sumG es day u=0
  · simp only [he11',he12,he17,hltj,hz0,decide_true,decide_false,Bool.not_true,za,Value.cells,Value.oneCell',Nat.reduceAdd,Nat.reduceSub,Nat.reduceMul,Nat.reduceLeDiff,Int.reduceEq,Nat.reduceEqDiff,zaJ]
    refine⟨by rw [zf]; omega,zi (by kernel_rfl) ⟨rfl,i+1,by omega,rfl,fun j hj=>?_⟩ meas⟩
    by_cases hji:j=i
    · rw [hji,← hu]; exact hz0
    · exact hz j (by omega)
  · simp only [he12,he17,hltj,hz0,decide_false,Bool.not_false,za,Value.cells,Value.oneCell',Nat.reduceAdd,Nat.reduceSub,Nat.reduceMul,Nat.reduceLeDiff,Int.reduceEq,Nat.reduceEqDiff,zaJ]
    refine⟨?_,y9⟩
    unfold cgrV cgr
    rw [if_neg n0,if_neg (by rw [← hxs]; exact fun hh=>hh hshp),if_pos]
    intro hh
    refine hz0 (hh u ?_)
    rw [hu,List.getD_eq_getElem?_getD,List.getElem?_eq_getElem (by omega)]
    exact List.getElem_mem _
end Go.Proofs.YtepaekbjoombpaaGreatDoor
end
section
namespace Go.Proofs.YtepaekbjoombpaaGreatDoor
open Go Go.Proofs Go.Eng Go.Run Tab
set_option maxRecDepth 100000
set_option linter.unusedSimpArgs false
set_option linter.unusedVariables false
set_option linter.defProp false
set_option maxHeartbeats 4000000
set_option linter.defProp false
def zae:=(And.intro (And.intro (And.intro @agg3 @zcq) (And.intro @by3 (And.intro @by40 @inf3))) (And.intro (And.intro @zbW @sz3) (And.intro @sz40 (And.intro @Tryz.underlying40 @Tryz.underlying73))))
structure Sto (gs:List (List Int))(i:Nat):Prop where
  ne:∀ j,j<i→gs.getD j []≠[]∧adjL (gs.getD j [])
  up:∀ j,j+1<i→(hds gs).getD j 0<(hds gs).getD (j+1) 0
theorem zjg {gs:List (List Int)}{i:Nat}(hi:i<gs.length):(hds gs).getD i 0=(gs.getD i []).getD 0 0:=by
  rw [zeP hi,List.getD_eq_getElem?_getD (l:=gs),List.getElem?_eq_getElem hi]; rfl
theorem Sto.next {gs:List (List Int)}{i:Nat}(P:Sto gs i)(hi:i<gs.length)(h1:gs.getD i []≠[])(h2:adjL (gs.getD i []))(h3:0<i→(gs.getD (i - 1) []).getD 0 0<(gs.getD i []).getD 0 0):Sto gs (i+1):=by
  refine⟨fun j hj=>?_,fun j hj=>?_⟩
  · by_cases hji:j=i
    · subst hji; exact⟨h1,h2⟩
    · exact P.ne j (by omega)
  · by_cases hji:j+1=i
    · subst hji
      have:=h3 (by omega)
      rw [Nat.add_sub_cancel] at this
      rw [zjg (by omega),zjg hi]
      exact this
    · exact P.up j (by omega)
theorem shp_at {o:List Int}{gs:List (List Int)}(h:shp o gs){i:Nat}(hi:i<gs.length):gs.getD i []≠[]∧adjL (gs.getD i [])∧(0<i→(gs.getD (i - 1) []).getD 0 0<(gs.getD i []).getD 0 0):=by
  obtain⟨h1,h2,_⟩:=h
  have e:gs.getD i []=gs[i]:=by rw [List.getD_eq_getElem?_getD,List.getElem?_eq_getElem hi]; rfl
  obtain⟨k1,k2⟩:=h1 gs[i] (List.getElem_mem hi)
  refine⟨by rw [e]; exact k1,by rw [e]; exact k2,fun h0=>?_⟩
  obtain⟨t,rfl⟩:∃ t,i=t+1:=⟨i - 1,by omega⟩
  have:=h2 t (by rw [zdS]; exact hi)
  rw [zjg (by omega),zjg hi] at this
  exact this
theorem zp5 {u:List Int}{x:Int}{j:Nat}(hj:j<u.length):(u.take (j+1)).count x=(u.take j).count x+if u.getD j 0=x then 1 else 0:=by
  rw [List.take_add_one,List.getElem?_eq_getElem hj,List.getD_eq_getElem?_getD,List.getElem?_eq_getElem hj,List.count_append]
  congr 1
  simp only [Option.toList,Option.getD_some,List.count_singleton]
  by_cases h:u[j]=x
  · simp [h]
  · simp [h]
theorem zo5 {gs:List (List Int)}{x:Int}{i:Nat}(hi:i<gs.length):(gs.take (i+1)).flatten.count x=(gs.take i).flatten.count x+(gs.getD i []).count x:=by
  rw [zbp hi,List.count_append]
def ShpP (o:List Int)(gs:List (List Int))(v:Value):Prop:=∃ bo:Bool,v=.bool bo∧(bo=true↔shp o gs)
theorem zr7 (aO:Option Addr)(nO cO:Nat)(o:List Int)(b:Option Addr)(m d:Nat)(T:List Hd)(gs:List (List Int))(h:Eng.Heap)(IO:zJ h aO nO o)(R:Row h b (hdsV T))(L:Lss h T gs)(hm:m=gs.length)(hml:m≤1000000)(hfl:gs.flatten.length≤1000)(hol:nO≤1000) :
    zb Tryz.prog 108 #[.slice aO nO cO,.slice b m d] h (fun v h'=>ShpP o gs v∧h'=h):=by
  have hT:=L.len
  have hOl:=IO.len
  (refine ze Tryz.func108 rfl bod108 ?_; simp only [Tryz.ntmps108,Tryz.results108,za,zh,splice,Value.cells,Value.oneCell',Nat.reduceAdd,Nat.reduceSub,Nat.reduceMul,Nat.reduceLeDiff,Int.reduceEq,Nat.reduceEqDiff,zae])
  have hno:∀ {i:Nat},i<gs.length→(gs.getD i []≠[]∧adjL (gs.getD i [])∧(0<i→(gs.getD (i - 1) []).getD 0 0<(gs.getD i []).getD 0 0)→False)→ShpP o gs (.bool false):=fun hi hh=>⟨false,rfl,⟨fun h=>(by cases h),fun hs=>(hh (shp_at hs hi)).elim⟩⟩
  refine zo [4,5,6,7,12,13,14,15,16,17,18,19,20,21,22,23,24,25,26,27,28,29,30,31,32,33,34,35,36,37,38,39,40,41,42,43,44,45,46,47,48,49,50,51,52,53,54,55,56,57,58,59,60,61,62,63,64,65,66,67,68,69,70,71,72,73,74,75] (fun e h'=>h'=h∧∃ i:Nat,i≤m∧e 6=.int .i64 i∧e 5=.int .i64 ((gs.take i).flatten.length:Nat)∧Sto gs i) (fun e _=>match e 6 with | .int _ q=>m - q.toNat | _=>0) ⟨rfl,0,by omega,rfl,rfl,⟨fun j hj=>by omega,fun j hj=>by omega⟩⟩ ?_
  rintro e1 h1 ⟨rfl,i,hi,he6,he5,P⟩
  by_cases him:i<m
  case pos=>
    have hlt:(i:Int)<(m:Int):=by omega
    have meas:m - ((i:Int)+1).toNat<m - (i:Int).toNat:=by omega
    have hcell:=zbw R (j:=i) (by omega)
    have sb:=R.isSome (by rw [zF]; omega)
    have hI:=L.each i (by omega)
    obtain⟨t,ht⟩:∃ t,t=T.getD i (none,0,0):=⟨_,rfl⟩
    obtain⟨u,hu⟩:∃ u,u=gs.getD i []:=⟨_,rfl⟩
    have hnoi:=hno (i:=i) (by omega)
    have hfn:=zbp (gs:=gs) (i:=i) (by omega)
    have hfl2:=zcu (gs:=gs) (i+1)
    have hnl:=congrArg List.length hfn
    rw [← ht] at hcell hI
    rw [← hu] at hI hnoi hnl
    rw [List.length_append] at hnl
    have hul:=hI.len
    have hui:u.length≤1000:=by omega
    have hnx:=P.next (i:=i) (by omega)
    rw [← hu] at hnx
    simp only [he6,hlt,decide_true,za,Value.cells,Value.oneCell',Nat.reduceAdd,Nat.reduceSub,Nat.reduceMul,Nat.reduceLeDiff,Int.reduceEq,Nat.reduceEqDiff,zae]
    refine zam (by kernel_rfl) zaM [(0,0),(1,0),(2,0),(3,0),(4,0),(5,0),(6,0),(7,0),(8,0),(9,0),(10,0),(11,0),(12,0),(13,0),(14,0),(15,0),(16,0),(17,0),(18,0),(19,0),(20,0),(21,0),(22,0),(23,0),(24,0),(25,0)] (by kernel_rfl) rfl (by kernel_rfl) ?_
    by_cases c1:u=[]
    · have z1:((t.2.1:Nat):Int)=0:=by rw [c1] at hul; simp at hul; omega
      simp only [he6,hcell,z1,zO,zU,decide_true,Int.toNat_natCast,za,Value.cells,Value.oneCell',Nat.reduceAdd,Nat.reduceSub,Nat.reduceMul,Nat.reduceLeDiff,Int.reduceEq,Nat.reduceEqDiff,zx,zae]
      refine⟨by omega,sb,?_⟩
      first | exact⟨hnoi fun hh=>hh.1 c1,rfl⟩ | exact hnoi fun hh=>hh.1 c1
    have hu0:0<u.length:=List.length_pos_iff.2 c1
    have z1:¬ ((t.2.1:Nat):Int)=0:=by omega
    have st:=hI.isSome (by omega)
    have c0:=hI.cell (j:=0) hu0
    rw [zbC] at c0
    have z0:((0:Int)).toNat=0:=rfl
    -- behind the tests
    have after:(0<i→(gs.getD (i - 1) []).getD 0 0<u.getD 0 0)→True:=fun _=>trivial
    by_cases hi0:i=0
    · subst hi0
      have z2:¬ (0:Int)<((0:Nat):Int):=by omega
      simp only [he6,he5,hcell,z1,z2,zO,zU,decide_true,decide_false,Int.toNat_natCast,za,Value.cells,Value.oneCell',Nat.reduceAdd,Nat.reduceSub,Nat.reduceMul,Nat.reduceLeDiff,Int.reduceEq,Nat.reduceEqDiff,zx,zae]
      refine⟨by omega,sb,?_⟩
      refine zo [4,7,44,45,46,47,48,49,50,51,52,53,54,55,56,57,58,59,60,61,62,63,64,65,66,67,68] (fun e h'=>h'=h1∧∃ j:Nat,1≤j∧j≤u.length∧e 7=.int .i64 j∧∀ q,q+1<j→u.getD q 0<u.getD (q+1) 0) (fun e _=>match e 7 with | .int _ q=>u.length - q.toNat | _=>0) ⟨rfl,1,by omega,by omega,rfl,fun q hq=>by omega⟩ ?_
      rintro e2 h2 ⟨rfl,j,hj1,hj,he7,hup⟩
      by_cases hju:j<u.length
      case neg=>
        obtain rfl:j=u.length:=by omega
        have hl2:¬ ((u.length:Nat):Int)<((t.2.1:Nat):Int):=by omega
        simp only [he6,he5,he7,hcell,hl2,decide_false,Int.toNat_natCast,za,Value.cells,Value.oneCell',Nat.reduceAdd,Nat.reduceSub,Nat.reduceMul,Nat.reduceLeDiff,Int.reduceEq,Nat.reduceEqDiff,zae]
        refine⟨by omega,sb,by omega,sb,by rw [zf]; omega,by rw [zf]; omega,zi (by kernel_rfl) ⟨rfl,0+1,by omega,rfl,?_,hnx c1 (fun q hq=>hup q hq) fun h=>by omega⟩ meas⟩
        rw [hnl,hul]; push_cast; rfl
      obtain⟨s,rfl⟩:∃ s:Nat,j=s+1:=⟨j - 1,by omega⟩
      have hl2:((s+1:Nat):Int)<((t.2.1:Nat):Int):=by omega
      have measj:u.length - (((s+1:Nat):Int)+1).toNat<u.length - ((s+1:Nat):Int).toNat:=by omega
      have c1':=hI.cell (j:=s+1) hju
      have c0':=hI.cell (j:=s) (by omega)
      have es:((s+1:Nat):Int) - 1=(s:Int):=by omega
      simp only [he6,he7,hcell,hl2,decide_true,Int.toNat_natCast,za,Value.cells,Value.oneCell',Nat.reduceAdd,Nat.reduceSub,Nat.reduceMul,Nat.reduceLeDiff,Int.reduceEq,Nat.reduceEqDiff,zae]
      refine⟨by omega,sb,?_⟩
      refine zam (by kernel_rfl) zaM [(0,0),(1,0),(2,0),(3,0),(4,0),(5,0),(6,0),(7,0),(8,0),(9,0),(10,0),(11,0),(12,0),(13,0),(14,0),(15,0)] (by kernel_rfl) rfl (by kernel_rfl) ?_
      by_cases hle:u.getD (s+1) 0≤u.getD s 0
      · simp only [he6,he7,hcell,c1',c0',es,hle,decide_true,Int.toNat_natCast,zW,za,Value.cells,Value.oneCell',Nat.reduceAdd,Nat.reduceSub,Nat.reduceMul,Nat.reduceLeDiff,Int.reduceEq,Nat.reduceEqDiff,zx,zae]
        repeat (refine And.intro (by first | omega | (rw [zf]; omega) | rfl | assumption | (exact sb) | (exact st)) ?_)
        first | exact⟨hnoi fun hh=>by have:=hh.2.1 s hju; omega,rfl⟩ | exact hnoi fun hh=>by have:=hh.2.1 s hju; omega
      · simp only [he6,he7,hcell,c1',c0',es,hle,decide_false,Int.toNat_natCast,zW,za,Value.cells,Value.oneCell',Nat.reduceAdd,Nat.reduceSub,Nat.reduceMul,Nat.reduceLeDiff,Int.reduceEq,Nat.reduceEqDiff,zx,zae]
        repeat (refine And.intro (by first | omega | (rw [zf]; omega) | rfl | assumption | (exact sb) | (exact st)) ?_)
        refine zi (by kernel_rfl) ⟨rfl,s+1+1,by omega,by omega,rfl,fun q hq=>?_⟩ measj
        by_cases hqs:q=s
        · subst hqs; omega
        · exact hup q (by omega)
    obtain⟨r,rfl⟩:∃ r:Nat,i=r+1:=⟨i - 1,by omega⟩
    have z2:(0:Int)<((r+1:Nat):Int):=by omega
    have er:((r+1:Nat):Int) - 1=(r:Int):=by omega
    have hcellr:=zbw R (j:=r) (by omega)
    have hIr:=L.each r (by omega)
    obtain⟨w,hw⟩:∃ w,w=T.getD r (none,0,0):=⟨_,rfl⟩
    obtain⟨x,hx⟩:∃ x,x=gs.getD r []:=⟨_,rfl⟩
    rw [← hw] at hcellr hIr
    rw [← hx] at hIr
    have hx0:0<x.length:=by
      have:=(P.ne r (by omega)).1
      rw [← hx] at this
      exact List.length_pos_iff.2 this
    have hxl:=hIr.len
    have sr:=hIr.isSome (by omega)
    have cr:=hIr.cell (j:=0) hx0
    rw [zbC] at cr
    rw [Nat.add_sub_cancel,← hx] at hnoi hnx
    by_cases c2:u.getD 0 0≤x.getD 0 0
    · simp only [he6,he5,hcell,hcellr,z0,z1,z2,er,c0,cr,c2,zbC,zO,zU,decide_true,decide_false,Int.toNat_natCast,zW,za,Value.cells,Value.oneCell',Nat.reduceAdd,Nat.reduceSub,Nat.reduceMul,Nat.reduceLeDiff,Int.reduceEq,Nat.reduceEqDiff,zx,zae]
      repeat (refine And.intro (by first | omega | (rw [zf]; omega) | rfl | assumption | (exact sb) | (exact st) | (exact sr)) ?_)
      first | exact⟨hnoi fun hh=>by have:=hh.2.2 (by omega); omega,rfl⟩ | exact hnoi fun hh=>by have:=hh.2.2 (by omega); omega
    simp only [he6,he5,hcell,hcellr,z0,z1,z2,er,c0,cr,c2,zbC,zO,zU,decide_true,decide_false,Int.toNat_natCast,zW,za,Value.cells,Value.oneCell',Nat.reduceAdd,Nat.reduceSub,Nat.reduceMul,Nat.reduceLeDiff,Int.reduceEq,Nat.reduceEqDiff,zx,zae]
    repeat (refine And.intro (by first | omega | (rw [zf]; omega) | rfl | assumption | (exact sb) | (exact st) | (exact sr)) ?_)
    refine zo [4,7,44,45,46,47,48,49,50,51,52,53,54,55,56,57,58,59,60,61,62,63,64,65,66,67,68] (fun e h'=>h'=h1∧∃ j:Nat,1≤j∧j≤u.length∧e 7=.int .i64 j∧∀ q,q+1<j→u.getD q 0<u.getD (q+1) 0) (fun e _=>match e 7 with | .int _ q=>u.length - q.toNat | _=>0) ⟨rfl,1,by omega,by omega,rfl,fun q hq=>by omega⟩ ?_
    rintro e2 h2 ⟨rfl,j,hj1,hj,he7,hup⟩
    by_cases hju:j<u.length
    case neg=>
      obtain rfl:j=u.length:=by omega
      have hl2:¬ ((u.length:Nat):Int)<((t.2.1:Nat):Int):=by omega
      simp only [he6,he5,he7,hcell,hl2,decide_false,Int.toNat_natCast,za,Value.cells,Value.oneCell',Nat.reduceAdd,Nat.reduceSub,Nat.reduceMul,Nat.reduceLeDiff,Int.reduceEq,Nat.reduceEqDiff,zae]
      refine⟨by omega,sb,by omega,sb,by rw [zf]; omega,by rw [zf]; omega,zi (by kernel_rfl) ⟨rfl,r+1+1,by omega,rfl,?_,hnx c1 (fun q hq=>hup q hq) fun h=>by omega⟩ meas⟩
      rw [hnl,hul]; push_cast; rfl
    obtain⟨s,rfl⟩:∃ s:Nat,j=s+1:=⟨j - 1,by omega⟩
    have hl2:((s+1:Nat):Int)<((t.2.1:Nat):Int):=by omega
    have measj:u.length - (((s+1:Nat):Int)+1).toNat<u.length - ((s+1:Nat):Int).toNat:=by omega
    have c1':=hI.cell (j:=s+1) hju
    have c0':=hI.cell (j:=s) (by omega)
    have es:((s+1:Nat):Int) - 1=(s:Int):=by omega
    simp only [he6,he7,hcell,hl2,decide_true,Int.toNat_natCast,za,Value.cells,Value.oneCell',Nat.reduceAdd,Nat.reduceSub,Nat.reduceMul,Nat.reduceLeDiff,Int.reduceEq,Nat.reduceEqDiff,zae]
    refine⟨by omega,sb,?_⟩
    refine zam (by kernel_rfl) zaM [(0,0),(1,0),(2,0),(3,0),(4,0),(5,0),(6,0),(7,0),(8,0),(9,0),(10,0),(11,0),(12,0),(13,0),(14,0),(15,0)] (by kernel_rfl) rfl (by kernel_rfl) ?_
    by_cases hle:u.getD (s+1) 0≤u.getD s 0
    · simp only [he6,he7,hcell,c1',c0',es,hle,decide_true,Int.toNat_natCast,zW,za,Value.cells,Value.oneCell',Nat.reduceAdd,Nat.reduceSub,Nat.reduceMul,Nat.reduceLeDiff,Int.reduceEq,Nat.reduceEqDiff,zx,zae]
      repeat (refine And.intro (by first | omega | (rw [zf]; omega) | rfl | assumption | (exact sb) | (exact st)) ?_)
      first | exact⟨hnoi fun hh=>by have:=hh.2.1 s hju; omega,rfl⟩ | exact hnoi fun hh=>by have:=hh.2.1 s hju; omega
    · simp only [he6,he7,hcell,c1',c0',es,hle,decide_false,Int.toNat_natCast,zW,za,Value.cells,Value.oneCell',Nat.reduceAdd,Nat.reduceSub,Nat.reduceMul,Nat.reduceLeDiff,Int.reduceEq,Nat.reduceEqDiff,zx,zae]
      repeat (refine And.intro (by first | omega | (rw [zf]; omega) | rfl | assumption | (exact sb) | (exact st)) ?_)
      refine zi (by kernel_rfl) ⟨rfl,s+1+1,by omega,by omega,rfl,fun q hq=>?_⟩ measj
      by_cases hqs:q=s
      · subst hqs; omega
      · exact hup q (by omega)
  obtain rfl:m=i:=by omega
  have htk:gs.take m=gs:=List.take_of_length_le (by omega)
  rw [htk] at he5
  have hA:(∀ g∈gs,g≠[]∧adjL g)∧adjL (hds gs):=⟨fun g hg=>by
    obtain⟨j,hj,rfl⟩:=List.mem_iff_getElem.1 hg
    have:=P.ne j (by omega)
    rwa [List.getD_eq_getElem?_getD,List.getElem?_eq_getElem hj] at this,fun j hj=>P.up j (by rw [zdS] at hj; omega)⟩
  simp only [he6,show ¬ ((m:Int)<(m:Int)) by omega,decide_false,za,Value.cells,Value.oneCell',Nat.reduceAdd,Nat.reduceSub,Nat.reduceMul,Nat.reduceLeDiff,Int.reduceEq,Nat.reduceEqDiff,zae]
  refine zo [4,8,9,10,11,76,77,78,79,80,81,82,83,84,85,86,87,88,89,90,91,92,93,94,95,96,97,98,99,100,101,102,103,104,105,106,107,108,109,110,111,112] (fun e h'=>h'=h1∧∃ i:Nat,i≤nO∧e 8=.int .i64 i∧∀ j,j<i→gs.flatten.count (o.getD j 0)=1) (fun e _=>match e 8 with | .int _ q=>nO - q.toNat | _=>0) ⟨rfl,0,by omega,rfl,fun j hj=>by omega⟩ ?_
  rintro e3 h3 ⟨rfl,i,hi,he8,hc⟩
  by_cases hio:i<nO
  case neg=>
    obtain rfl:nO=i:=by omega
    have hC:∀ x∈o,gs.flatten.count x=1:=fun x hx=>by
      obtain⟨j,hj,rfl⟩:=List.mem_iff_getElem.1 hx
      have:=hc j (by omega)
      rwa [List.getD_eq_getElem?_getD,List.getElem?_eq_getElem hj] at this
    have hr:ShpP o gs (.bool (decide (((gs.flatten.length:Nat):Int)=((nO:Nat):Int)))):=by
      refine⟨_,rfl,?_⟩
      rw [decide_eq_true_eq]
      exact⟨fun hh=>⟨hA.1,hA.2,hC,by omega⟩,fun hh=>by have:=hh.2.2.2; omega⟩
    simp only [he5,he8,show ¬ ((nO:Int)<(nO:Int)) by omega,decide_false,za,Value.cells,Value.oneCell',Nat.reduceAdd,Nat.reduceSub,Nat.reduceMul,Nat.reduceLeDiff,Int.reduceEq,Nat.reduceEqDiff,zae]
    first | exact⟨hr,rfl⟩ | exact hr
  have hlt:(i:Int)<(nO:Int):=by omega
  have measi:nO - ((i:Int)+1).toNat<nO - (i:Int).toNat:=by omega
  have co:=IO.cell (j:=i) (by omega)
  have so:=IO.isSome (by omega)
  obtain⟨x,hx⟩:∃ x,x=o.getD i 0:=⟨_,rfl⟩
  rw [← hx] at co
  simp only [he8,hlt,decide_true,za,Value.cells,Value.oneCell',Nat.reduceAdd,Nat.reduceSub,Nat.reduceMul,Nat.reduceLeDiff,Int.reduceEq,Nat.reduceEqDiff,zae]
  refine zo [9,10,11,82,83,84,85,86,87,88,89,90,91,92,93,94,95,96,97,98,99,100,101,102,103,104,105,106,107,108,109,110] (fun e h'=>h'=h3∧∃ k:Nat,k≤m∧e 10=.int .i64 k∧e 9=.int .i64 ((gs.take k).flatten.count x:Nat)) (fun e _=>match e 10 with | .int _ q=>m - q.toNat | _=>0) ⟨rfl,0,by omega,rfl,rfl⟩ ?_
  rintro e4 h4 ⟨rfl,k,hk,he10,he9⟩
  by_cases hkm:k<m
  case neg=>
    obtain rfl:m=k:=by omega
    rw [htk] at he9
    by_cases hone:gs.flatten.count x=1
    · have hone':((gs.flatten.count x:Nat):Int)=1:=by omega
      simp only [he8,he9,he10,hone',show ¬ ((m:Int)<(m:Int)) by omega,decide_true,decide_false,Bool.not_true,za,Value.cells,Value.oneCell',Nat.reduceAdd,Nat.reduceSub,Nat.reduceMul,Nat.reduceLeDiff,Int.reduceEq,Nat.reduceEqDiff,zae]
      refine⟨by rw [zf]; omega,zi (by kernel_rfl) ⟨rfl,i+1,by omega,rfl,fun j hj=>?_⟩ measi⟩
      by_cases hji:j=i
      · rw [hji,← hx]; exact hone
      · exact hc j (by omega)
    · have hone':¬ ((gs.flatten.count x:Nat):Int)=1:=by omega
      have hr:ShpP o gs (.bool false):=⟨false,rfl,⟨fun h=>(by cases h),fun hs=>(hone (hs.2.2.1 x (by
        rw [hx,List.getD_eq_getElem?_getD,List.getElem?_eq_getElem (by omega)]; exact List.getElem_mem _))).elim⟩⟩
      simp only [he8,he9,he10,hone',show ¬ ((m:Int)<(m:Int)) by omega,decide_true,decide_false,Bool.not_false,za,Value.cells,Value.oneCell',Nat.reduceAdd,Nat.reduceSub,Nat.reduceMul,Nat.reduceLeDiff,Int.reduceEq,Nat.reduceEqDiff,zae]
      first | exact⟨hr,rfl⟩ | exact hr
  have hltk:(k:Int)<(m:Int):=by omega
  have meask:m - ((k:Int)+1).toNat<m - (k:Int).toNat:=by omega
  have hcell:=zbw R (j:=k) (by omega)
  have sb:=R.isSome (by rw [zF]; omega)
  have hI:=L.each k (by omega)
  obtain⟨t,ht⟩:∃ t,t=T.getD k (none,0,0):=⟨_,rfl⟩
  obtain⟨u,hu⟩:∃ u,u=gs.getD k []:=⟨_,rfl⟩
  have hcf:=zo5 (gs:=gs) (x:=x) (i:=k) (by omega)
  have hfl2:=zcu (gs:=gs) (k+1)
  have hnl:=congrArg List.length (zbp (gs:=gs) (i:=k) (by omega))
  rw [← ht] at hcell hI
  rw [← hu] at hI hcf hnl
  rw [List.length_append] at hnl
  have hul:=hI.len
  have hcl:=List.count_le_length (a:=x) (l:=(gs.take k).flatten)
  simp only [he10,hltk,decide_true,za,Value.cells,Value.oneCell',Nat.reduceAdd,Nat.reduceSub,Nat.reduceMul,Nat.reduceLeDiff,Int.reduceEq,Nat.reduceEqDiff,zae]
  refine zo [9,11,88,89,90,91,92,93,94,95,96,97,98,99,100,101,102,103,104,105,106,107,108,109,110] (fun e h'=>h'=h4∧∃ j:Nat,j≤u.length∧e 11=.int .i64 j∧e 9=.int .i64 ((gs.take k).flatten.count x+(u.take j).count x:Nat)) (fun e _=>match e 11 with | .int _ q=>u.length - q.toNat | _=>0) ⟨rfl,0,by omega,rfl,he9⟩ ?_
  rintro e5' h5 ⟨rfl,j,hj,he11,he9'⟩
  by_cases hju:j<u.length
  case neg=>
    obtain rfl:j=u.length:=by omega
    rw [List.take_length,← hcf] at he9'
    have hl2:¬ ((u.length:Nat):Int)<((t.2.1:Nat):Int):=by omega
    simp only [he10,he11,hcell,hl2,decide_false,Int.toNat_natCast,za,Value.cells,Value.oneCell',Nat.reduceAdd,Nat.reduceSub,Nat.reduceMul,Nat.reduceLeDiff,Int.reduceEq,Nat.reduceEqDiff,zae]
    exact⟨by omega,sb,by rw [zf]; omega,zi (by kernel_rfl) ⟨rfl,k+1,by omega,rfl,he9'⟩ meask⟩
  have hl2:(j:Int)<((t.2.1:Nat):Int):=by omega
  have measj:u.length - ((j:Int)+1).toNat<u.length - (j:Int).toNat:=by omega
  have cj:=hI.cell (j:=j) hju
  have st:=hI.isSome (by omega)
  have hcn:=zp5 (x:=x) hju
  have hcl2:=List.count_le_length (a:=x) (l:=u.take j)
  rw [List.length_take] at hcl2
  simp only [he10,he11,hcell,hl2,decide_true,Int.toNat_natCast,za,Value.cells,Value.oneCell',Nat.reduceAdd,Nat.reduceSub,Nat.reduceMul,Nat.reduceLeDiff,Int.reduceEq,Nat.reduceEqDiff,zae]
  refine⟨by omega,sb,?_⟩
  refine zam (by kernel_rfl) zaM [(0,0),(1,0),(2,0),(3,0),(4,0),(5,0),(6,0),(7,0),(8,0),(9,0),(10,0),(11,0)] (by kernel_rfl) rfl (by kernel_rfl) ?_
  by_cases hxe:u.getD j 0=x
  · rw [if_pos hxe] at hcn
    simp only [he8,he9',he10,he11,hcell,cj,co,hxe,decide_true,Int.toNat_natCast,zW,za,Value.cells,Value.oneCell',Nat.reduceAdd,Nat.reduceSub,Nat.reduceMul,Nat.reduceLeDiff,Int.reduceEq,Nat.reduceEqDiff,zx,zae]
    repeat (refine And.intro (by first | omega | (rw [zf]; omega) | rfl | assumption | (exact sb) | (exact st) | (exact so)) ?_)
    refine zi (by kernel_rfl) ⟨rfl,j+1,by omega,rfl,?_⟩ measj
    rw [hcn]; push_cast; rw [Int.add_assoc]; rfl
  · rw [if_neg hxe] at hcn
    simp only [he8,he9',he10,he11,hcell,cj,co,hxe,decide_false,Int.toNat_natCast,zW,za,Value.cells,Value.oneCell',Nat.reduceAdd,Nat.reduceSub,Nat.reduceMul,Nat.reduceLeDiff,Int.reduceEq,Nat.reduceEqDiff,zx,zae]
    repeat (refine And.intro (by first | omega | (rw [zf]; omega) | rfl | assumption | (exact sb) | (exact st) | (exact so)) ?_)
    exact zi (by kernel_rfl) ⟨rfl,j+1,by omega,rfl,by rw [hcn]; rfl⟩ measj
end Go.Proofs.YtepaekbjoombpaaGreatDoor
end
section
namespace Go.Proofs.YtepaekbjoombpaaGreatDoor
open Go Go.Proofs Go.Eng Go.Run Tab
set_option maxRecDepth 100000
set_option linter.unusedSimpArgs false
set_option linter.unusedVariables false
set_option linter.defProp false
set_option maxHeartbeats 4000000
set_option linter.defProp false
def zgJ:=(And.intro (And.intro @zcq (And.intro @by40 @zbW)) (And.intro (And.intro @sz40 @Tryz.underlying3) (And.intro @Tryz.underlying40 @Tryz.underlying73)))
def zbA:=(And.intro (And.intro (And.intro (And.intro @agg2 @zbV) (And.intro @agg3 @zcq)) (And.intro (And.intro @by2 @by3) (And.intro @by40 (And.intro @inf2 @zbS)))) (And.intro (And.intro (And.intro @inf3 @zbW) (And.intro @sz2 @sz24)) (And.intro (And.intro @sz3 @sz40) (And.intro @Tryz.underlying37 (And.intro @Tryz.underlying40 @Tryz.underlying73)))))
theorem zlC (acc cl:Int)(a:Option Addr)(n c:Nat)(es:List En)(day:Int)(b:Option Addr)(m d:Nat)(T:List Hd)(gs:List (List Int))(h:Eng.Heap)(hr:Row h a (ensV es))(hn:n=es.length)(hl:n≤1000000)(R:Row h b (hdsV T))(L:Lss h T gs)(hm:m=gs.length)(hml:m≤1000000)(hfl:gs.flatten.length≤1000) :
    zb Tryz.prog 59 #[.agg #[.int .i64 acc,.int .i64 cl,.slice a n c],.int .i64 day,.slice b m d] h (fun v h'=>v=cgrV acc cl es day gs∧Ext h h'):=by
  have hT:=L.len
  (refine ze Tryz.func59 rfl bod59 ?_; simp only [Tryz.ntmps59,Tryz.results59,za,zh,splice,Value.cells,Value.oneCell',Nat.reduceAdd,Nat.reduceSub,Nat.reduceMul,Nat.reduceLeDiff,Int.reduceEq,Nat.reduceEqDiff,zbA])
  have q0:=zu (h:=h) (o:=.cells #[.int .i64 acc,.int .i64 cl,.slice a n c] 24)
  refine zb.mono (zca acc cl a n c es day _ (hr.push _) hn hl) ?_
  rintro v h1 ⟨rfl,x1⟩
  have hb1:=x1.get q0
  have y1:=x1.of_push
  by_cases e0:opn acc cl es [day]=0
  case neg=>
    simp only [e0,hb1,decide_false,Bool.not_false,za,Value.cells,Value.oneCell',Nat.reduceAdd,Nat.reduceSub,Nat.reduceMul,Nat.reduceLeDiff,Int.reduceEq,Nat.reduceEqDiff,zbA]
    refine zb.mono (zca acc cl a n c es day h1 (hr.ext y1) hn hl) ?_
    rintro v h2 ⟨rfl,x2⟩
    simp only [za,Value.cells,Value.oneCell',Nat.reduceAdd,Nat.reduceSub,Nat.reduceMul,Nat.reduceLeDiff,Int.reduceEq,Nat.reduceEqDiff,zbA]
    refine⟨?_,y1.trans x2⟩
    unfold cgrV cgr
    rw [if_pos e0]
  obtain⟨hc,hd⟩:=zbZ e0
  obtain⟨ha,hl2,hcl,hok,hso,hft⟩:=zbX hc
  obtain⟨k,rfl⟩:∃ k:Nat,acc=k:=⟨acc.toNat,by omega⟩
  have n0:¬ (opn k cl es [day]≠0):=by simpa using e0
  simp only [e0,hb1,decide_true,Bool.not_true,za,Value.cells,Value.oneCell',Nat.reduceAdd,Nat.reduceSub,Nat.reduceMul,Nat.reduceLeDiff,Int.reduceEq,Nat.reduceEqDiff,zbA]
  refine zb.mono (zhS k cl a n c es day h1 (hr.ext y1) hn (by omega) hok (by omega) hft) ?_
  rintro v h2 ⟨⟨aO,cO,rfl,IO⟩,x2⟩
  have y2:=y1.trans x2
  have hO:=zbx (bals 8 es day) 8
  have hb2:=x2.get hb1
  simp only [za,Value.cells,Value.oneCell',Nat.reduceAdd,Nat.reduceSub,Nat.reduceMul,Nat.reduceLeDiff,Int.reduceEq,Nat.reduceEqDiff,zbA]
  refine zb.mono (zr7 aO _ cO (nz (opL8 (bals 8 es day) 8)) b m d T gs h2 IO (R.ext y2) (L.ext y2) hm hml hfl (by omega)) ?_
  rintro v h3 ⟨⟨bo,rfl,hbo⟩,rfl⟩
  cases bo with
  | false=>
    have hns:¬ shp (nz (opL8 (bals 8 es day) 8)) gs:=fun hh=>by have:=hbo.2 hh; cases this
    simp only [Bool.not_false,za,Value.cells,Value.oneCell',Nat.reduceAdd,Nat.reduceSub,Nat.reduceMul,Nat.reduceLeDiff,Int.reduceEq,Nat.reduceEqDiff,zbA]
    refine⟨?_,y2⟩
    unfold cgrV cgr
    rw [if_neg n0,if_pos hns]
  | true=>
  have hshp:=hbo.1 rfl
  have hmem:∀ j,j<gs.length→∀ x∈gs.getD j [],∃ i:Nat,x=i∧i<k:=fun j hj x hx=>by
    obtain⟨s1,s2,s3,s4⟩:=hshp
    have nn:(nz (opL8 (bals 8 es day) 8)).Nodup:=(zjH (bals 8 es day)).imp fun h=>by omega
    obtain⟨_,hp⟩:=(LS.ziY (gs:=gs) nn).2 ⟨fun g hg=>zb4.1 (s1 g hg).2,s3,s4⟩
    have h1:x∈gs.flatten:=List.mem_flatten.2 ⟨gs.getD j [],by rw [List.getD_eq_getElem?_getD,List.getElem?_eq_getElem hj]; exact List.getElem_mem hj,hx⟩
    have h2:=hp.mem_iff.1 h1
    unfold nz at h2
    obtain⟨i,hi,rfl⟩:=List.mem_map.1 h2
    refine⟨i,rfl,?_⟩
    exact zg4 (day:=day) hok i ((zfE i).2 hi)
  simp only [hb2,Bool.not_true,za,Value.cells,Value.oneCell',Nat.reduceAdd,Nat.reduceSub,Nat.reduceMul,Nat.reduceLeDiff,Int.reduceEq,Nat.reduceEqDiff,zbA]
  refine zb.mono (zef k cl a n c es day h3 (hr.ext y2) hn (by omega) hok (by omega) hft) ?_
  rintro v h4 ⟨⟨bL,mL,cL,rfl,IL,_⟩,x4⟩
  have y4:=y2.trans x4
  have hmL:=IL.len
  rw [zm] at hmL
  subst hmL
  simp only [za,Value.cells,Value.oneCell',Nat.reduceAdd,Nat.reduceSub,Nat.reduceMul,Nat.reduceLeDiff,Int.reduceEq,Nat.reduceEqDiff,zbA]
  refine zo [6,7,9,10,11,28,29,30,31,32,33,34,35,36,37,38,39,40,41,42,43,44,45,46,47,48,49,50,51,52,53,54,55,56] (fun e h'=>h'=h4∧∃ i:Nat,i≤m∧e 9=.int .i64 i∧∀ j,j<i→sumG es day (gs.getD j [])=0) (fun e _=>match e 9 with | .int _ q=>m - q.toNat | _=>0) ⟨rfl,0,by omega,rfl,fun j hj=>by omega⟩ ?_
  rintro e11 h11 ⟨rfl,i,hi,he9,hz⟩
  by_cases him:i<m
  case neg=>
    obtain rfl:m=i:=by omega
    simp only [he9,show ¬ ((m:Int)<(m:Int)) by omega,decide_false,za,Value.cells,Value.oneCell',Nat.reduceAdd,Nat.reduceSub,Nat.reduceMul,Nat.reduceLeDiff,Int.reduceEq,Nat.reduceEqDiff,zbA]
    refine⟨?_,y4⟩
    unfold cgrV
    rw [zlz e0 hshp fun g hg=>?_,hm]
    obtain⟨j,hj,rfl⟩:=List.mem_iff_getElem.1 hg
    have:=hz j (by omega)
    rwa [List.getD_eq_getElem?_getD,List.getElem?_eq_getElem hj] at this
  have hlt:(i:Int)<(m:Int):=by omega
  have meas:m - ((i:Int)+1).toNat<m - (i:Int).toNat:=by omega
  have hcell:=zbw (R.ext y4) (j:=i) (by omega)
  have sb:=R.isSome (by rw [zF]; omega)
  have hI:=(L.each i (by omega)).ext y4
  have hme:=hmem i (by omega)
  obtain⟨t,ht⟩:∃ t,t=T.getD i (none,0,0):=⟨_,rfl⟩
  obtain⟨u,hu⟩:∃ u,u=gs.getD i []:=⟨_,rfl⟩
  rw [← ht] at hcell hI
  rw [← hu] at hI hme
  have hul:=hI.len
  have hui:u.length≤1000:=by
    have h1:=zbp (gs:=gs) (i:=i) (by omega)
    have h2:=zcu (gs:=gs) (i+1)
    rw [h1,List.length_append,← hu] at h2
    omega
  simp only [he9,hlt,decide_true,za,Value.cells,Value.oneCell',Nat.reduceAdd,Nat.reduceSub,Nat.reduceMul,Nat.reduceLeDiff,Int.reduceEq,Nat.reduceEqDiff,zbA]
  refine zo [10,11,34,35,36,37,38,39,40,41,42,43,44,45,46,47,48,49,50,51,52,53,54] (fun e h'=>h'=h11∧∃ j:Nat,j≤u.length∧e 11=.int .i64 j∧e 10=.int .i64 (sumG es day (u.take j))) (fun e _=>match e 11 with | .int _ q=>u.length - q.toNat | _=>0) ⟨rfl,0,by omega,rfl,rfl⟩ ?_
  rintro e12 h12 ⟨rfl,j,hj,he12,he10⟩
  by_cases hju:j<u.length
  · have hltj:(j:Int)<((t.2.1:Nat):Int):=by omega
    have measj:u.length - ((j:Int)+1).toNat<u.length - (j:Int).toNat:=by omega
    have cj:=hI.cell (j:=j) hju
    have st:=hI.isSome (by omega)
    obtain⟨x,hx,hx8⟩:=hme (u.getD j 0) (by rw [List.getD_eq_getElem?_getD,List.getElem?_eq_getElem hju]; exact List.getElem_mem hju)
    have ce:=IL.cell (j:=x) (by rw [zm]; omega)
    have sL:=IL.isSome (by rw [zm]; omega)
    rw [zL es day hx8] at ce
    have hnx:=zkJ (es:=es) (day:=day) hju
    have hb1:=zcJ (day:=day) hl2 hok (u.take j)
    have hb2:=zcJ (day:=day) hl2 hok (u.take (j+1))
    rw [List.length_take] at hb1 hb2
    rw [hx] at cj hnx
    simp only [he9,he12,he10,hcell,hltj,cj,ce,decide_true,Int.toNat_natCast,za,Value.cells,Value.oneCell',Nat.reduceAdd,Nat.reduceSub,Nat.reduceMul,Nat.reduceLeDiff,Int.reduceEq,Nat.reduceEqDiff,zbA]
    repeat (refine And.intro (by first | omega | (rw [zf]; omega) | rfl | assumption | (exact sb) | (exact st) | (exact sL)) ?_)
    refine zi (by kernel_rfl) ⟨rfl,j+1,by omega,rfl,?_⟩ measj
    rw [hnx]; rfl
  obtain rfl:j=u.length:=by omega
  rw [List.take_length] at he10
  have hltj:¬ ((u.length:Nat):Int)<((t.2.1:Nat):Int):=by omega
  by_cases hz0:sumG es day u=0
  · simp only [he9,he12,he10,hcell,hltj,hz0,decide_true,decide_false,Bool.not_true,Int.toNat_natCast,za,Value.cells,Value.oneCell',Nat.reduceAdd,Nat.reduceSub,Nat.reduceMul,Nat.reduceLeDiff,Int.reduceEq,Nat.reduceEqDiff,zbA]
    refine⟨by omega,sb,by rw [zf]; omega,zi (by kernel_rfl) ⟨rfl,i+1,by omega,rfl,fun j hj=>?_⟩ meas⟩
    by_cases hji:j=i
    · rw [hji,← hu]; exact hz0
    · exact hz j (by omega)
  · simp only [he9,he12,he10,hcell,hltj,hz0,decide_false,Bool.not_false,Int.toNat_natCast,za,Value.cells,Value.oneCell',Nat.reduceAdd,Nat.reduceSub,Nat.reduceMul,Nat.reduceLeDiff,Int.reduceEq,Nat.reduceEqDiff,zbA]
    refine⟨by omega,sb,?_,y4⟩
    unfold cgrV cgr
    rw [if_neg n0,if_neg (fun hh=>hh hshp),if_pos]
    intro hh
    refine hz0 (hh u ?_)
    rw [hu,List.getD_eq_getElem?_getD,List.getElem?_eq_getElem (by omega)]
    exact List.getElem_mem _
def zdf (T:List Hd):Bool:=decide (12<T.length)||T.any fun t=>decide (12<t.2.1)
theorem zlt (b:Option Addr)(m d:Nat)(T:List Hd)(h:Eng.Heap)(R:Row h b (hdsV T))(hm:m=T.length) :
    zb Tryz.prog 57 #[.slice b m d] h (fun v h'=>v=.bool (zdf T)∧h'=h):=by
  (refine ze Tryz.func57 rfl bod57 ?_; simp only [Tryz.ntmps57,Tryz.results57,za,zh,splice,Value.cells,Value.oneCell',Nat.reduceAdd,Nat.reduceSub,Nat.reduceMul,Nat.reduceLeDiff,Int.reduceEq,Nat.reduceEqDiff,zgJ])
  by_cases h12:12<m
  · have h12i:(12:Int)<(m:Int):=by omega
    simp only [h12i,decide_true,za,Value.cells,Value.oneCell',Nat.reduceAdd,Nat.reduceSub,Nat.reduceMul,Nat.reduceLeDiff,Int.reduceEq,Nat.reduceEqDiff,zgJ]
    rw [zdf,decide_eq_true (show 12<T.length by omega)]
    simp
  have h12i:¬ (12:Int)<(m:Int):=by omega
  simp only [h12i,decide_false,za,Value.cells,Value.oneCell',Nat.reduceAdd,Nat.reduceSub,Nat.reduceMul,Nat.reduceLeDiff,Int.reduceEq,Nat.reduceEqDiff,zgJ]
  refine zo [3,4,8,9,10,11,12,13,14,15,16,17,18,19,20] (fun e h'=>h'=h∧∃ i x:Nat,i≤m∧e 4=.int .i64 i∧e 3=.int .i64 x∧(12<x↔(T.take i).any (fun t=>decide (12<t.2.1))=true)) (fun e _=>match e 4 with | .int _ q=>m - q.toNat | _=>0) ⟨rfl,0,0,by omega,rfl,rfl,by simp⟩ ?_
  rintro e h1 ⟨rfl,i,x,hi,he4,he3,hx⟩
  by_cases him:i<m
  · have hlt:(i:Int)<(m:Int):=by omega
    have meas:m - ((i:Int)+1).toNat<m - (i:Int).toNat:=by omega
    have hcell:=zbw R (j:=i) (by omega)
    have sb:=R.isSome (by rw [zF]; omega)
    obtain⟨t,ht⟩:∃ t,t=T.getD i (none,0,0):=⟨_,rfl⟩
    rw [← ht] at hcell
    have emx:(if (x:Int)<(t.2.1:Int) then ((t.2.1:Nat):Int) else (x:Int))=((max x t.2.1:Nat):Int):=by split <;> omega
    simp only [he4,he3,hlt,hcell,emx,decide_true,Int.toNat_natCast,za,Value.cells,Value.oneCell',Nat.reduceAdd,Nat.reduceSub,Nat.reduceMul,Nat.reduceLeDiff,Int.reduceEq,Nat.reduceEqDiff,zgJ]
    refine⟨by omega,sb,by rw [zf]; omega,zi (by kernel_rfl) ⟨rfl,i+1,max x t.2.1,by omega,rfl,rfl,?_⟩ meas⟩
    have e1:T.take (i+1)=T.take i++[t]:=by
      rw [List.take_add_one,List.getElem?_eq_getElem (by omega),ht,List.getD_eq_getElem?_getD,List.getElem?_eq_getElem (by omega)]; rfl
    rw [e1,List.any_append,Bool.or_eq_true,← hx]
    simp
    omega
  obtain rfl:m=i:=by omega
  rw [List.take_of_length_le (by omega)] at hx
  simp only [he4,he3,show ¬ ((m:Int)<(m:Int)) by omega,decide_false,za,Value.cells,Value.oneCell',Nat.reduceAdd,Nat.reduceSub,Nat.reduceMul,Nat.reduceLeDiff,Int.reduceEq,Nat.reduceEqDiff,zgJ]
  have e1:zdf T=decide ((12:Int)<(x:Int)):=by
    unfold zdf
    rw [decide_eq_false (show ¬ 12<T.length by omega),Bool.false_or,Bool.eq_iff_iff,← hx,decide_eq_true_eq]
    omega
  rw [e1]
  try rfl
end Go.Proofs.YtepaekbjoombpaaGreatDoor
end
section
namespace Go.Proofs.YtepaekbjoombpaaGreatDoor
open Go Go.Proofs Go.Eng Go.Run Tab
set_option maxRecDepth 100000
set_option linter.unusedSimpArgs false
set_option linter.unusedVariables false
set_option linter.defProp false
set_option maxHeartbeats 4000000
set_option linter.defProp false
def zbr:=(And.intro (And.intro (And.intro (And.intro (And.intro @zeU @zja) (And.intro @agg2 @zbV)) (And.intro (And.intro @agg3 @zcq) (And.intro @ziO @by3))) (And.intro (And.intro (And.intro @by40 @fps139_0) (And.intro @fps139_1 @fps139_2)) (And.intro (And.intro @ze7 @zgc) (And.intro @inf2 @zbS)))) (And.intro (And.intro (And.intro (And.intro @inf3 @zbW) (And.intro @okf139 @zhb)) (And.intro (And.intro @ziL @sz2) (And.intro @sz24 @sz3))) (And.intro (And.intro (And.intro @sz40 @zdZ) (And.intro @zhj @zbH)) (And.intro (And.intro @Tryz.underlying40 @Tryz.underlying73) (And.intro @Tryz.underlying77 @Tryz.underlying104)))))
theorem app77 {h:Eng.Heap}{er:Env}{ty:TypeId}{m0:Nat}{x y:Operand}{a b:Option Addr}{len cap m c:Nat}{ps qs:List Pm}{K:Value→Eng.Heap→Prop}(hx:ev er x=.slice a len cap)(hy:ev er y=.slice b m c)(O:OwnV m0 h 139 3 a len cap (pmsV ps))(h0h:m0≤h.size)(I:Row h b (pmsV qs))(hm:m=qs.length)(hb:len+m≤1000)
    (H:∀ a' cap' h',OwnV m0 h' 139 3 a' (len+m) cap' (pmsV (ps++qs))→App h h' a a'→K (.slice a' (len+m) cap') h'):zg Tryz.prog (.call ⟨.builtin .append,#[x,y],#[77,77]⟩) ty er h K:=
  zcO Tryz.underlying77 Tryz.underlying77 zgc ziL zhj (by rfl) hx hy O h0h I (by rw [zaI]; omega) (fun u hu=>by
    simp only [pmsV,List.mem_flatMap,pmV] at hu
    obtain⟨e,_,hu⟩:=hu
    simp at hu
    rcases hu with rfl | rfl | rfl <;> rfl) (by omega) (by rw [ziO]; omega) (fun a' cap' h' O' A=>H a' cap' h' (by rw [znu]; exact O') A)
theorem zr4 {l:Nat→Int}{k:Nat}{S:List Nat}{i:Nat}(hi:i<S.length):pysS l k (S.take (i+1))=pysS l k (S.take i)++(chL l (acc (S.getD i 0) k)).map pmP:=by
  unfold pysS pysL
  rw [List.take_add_one,List.getElem?_eq_getElem hi,List.map_append,List.flatMap_append,List.map_append,List.getD_eq_getElem?_getD,List.getElem?_eq_getElem hi]
  simp
theorem zrh {l:Nat→Int}{u:List Nat}{j:Nat}(hj:j<u.length):LS.lsum l (u.take (j+1))=LS.lsum l (u.take j)+l (u.getD j 0):=by
  rw [List.take_add_one,List.getElem?_eq_getElem hj,LS.zbN,List.getD_eq_getElem?_getD,List.getElem?_eq_getElem hj]
  simp [LS.lsum]
def PayP (k:Int)(cl:Int)(es:List En)(day:Int)(v:Value)(h':Eng.Heap):Prop:=
  (opn k cl es [day]=0∧∃ aP cP S ps,v=.tuple #[.slice aP (pysS (l8 es day) k.toNat S).length cP,.int .i64 0]∧Row h' aP (pmsV (pysS (l8 es day) k.toNat S))∧S.Perm ps∧LS.Pt (LS.zero (l8 es day) 8) (LS.msk (LS.opn (l8 es day)) 8) ps∧LS.Most (LS.zero (l8 es day) 8) (LS.msk (LS.opn (l8 es day)) 8) S.length) ∨
  (opn k cl es [day]≠0∧v=.tuple #[.slice none 0 0,.int .i64 (opn k cl es [day])])
theorem pays62 (ac cl:Int)(a:Option Addr)(n c:Nat)(es:List En)(day:Int)(h:Eng.Heap)(hr:Row h a (ensV es))(hn:n=es.length)(hl:n≤1000000) :
    zb Tryz.prog 62 #[.agg #[.int .i64 ac,.int .i64 cl,.slice a n c],.int .i64 day] h (fun v h'=>PayP ac cl es day v h'∧Ext h h'):=by
  (refine ze Tryz.func62 rfl bod62 ?_; simp only [Tryz.ntmps62,Tryz.results62,za,zh,splice,Value.cells,Value.oneCell',Nat.reduceAdd,Nat.reduceSub,Nat.reduceMul,Nat.reduceLeDiff,Int.reduceEq,Nat.reduceEqDiff,zbr])
  have q0:=zu (h:=h) (o:=.cells #[.int .i64 ac,.int .i64 cl,.slice a n c] 24)
  refine zb.mono (zfb ac cl a n c es _ 1 1 [day] _ ((hr.push _).push _) hn hl (zaB pn1) (by omega)) ?_
  rintro v h1 ⟨x1,H⟩
  have y1:=x1.of_push.of_push
  rcases H with⟨e0,g,rfl,hg,hsz⟩ | ⟨e0,rfl⟩
  case inr=>
    have hd0:=decide_eq_false e0
    simp only [hd0,Bool.not_false,za,Value.cells,Value.oneCell',Nat.reduceAdd,Nat.reduceSub,Nat.reduceMul,Nat.reduceLeDiff,Int.reduceEq,Nat.reduceEqDiff,zbr]
    exact⟨.inr ⟨e0,rfl⟩,y1⟩
  obtain⟨hc,hd⟩:=zbZ e0
  obtain⟨ha,hl2,hcl,hok,hso,hft⟩:=zbX hc
  obtain⟨k,rfl⟩:∃ k:Nat,ac=k:=⟨ac.toNat,by omega⟩
  simp only [za,Value.cells,Value.oneCell',Nat.reduceAdd,Nat.reduceSub,Nat.reduceMul,Nat.reduceLeDiff,Int.reduceEq,Nat.reduceEqDiff,zbr]
  refine zb.mono (zcQ g k cl a n c es day h1 hg (hr.ext y1) hn (by omega) hok ha.2 hft) ?_
  rintro v h4 ⟨rfl,x4⟩
  have y4:=y1.trans x4
  obtain⟨xs,hxs⟩:∃ xs,xs=bals 8 es day:=⟨_,rfl⟩
  have hxl:xs.length=8:=by rw [hxs,zm]
  rw [← hxs]
  obtain⟨b0,b1,b2,b3,b4,b5,b6,b7,h8⟩:∃ b0 b1 b2 b3 b4 b5 b6 b7:Int,xs=[b0,b1,b2,b3,b4,b5,b6,b7]:=by
    match xs,hxl with
    | [b0,b1,b2,b3,b4,b5,b6,b7],_=>exact⟨b0,b1,b2,b3,b4,b5,b6,b7,rfl⟩
  have h9:(ints xs).toArray=#[.int .i64 b0,.int .i64 b1,.int .i64 b2,.int .i64 b3,.int .i64 b4,.int .i64 b5,.int .i64 b6,.int .i64 b7]:=by rw [h8]; rfl
  rw [h9]
  simp only [za,zh,splice,Value.cells,Value.oneCell',Nat.reduceAdd,Nat.reduceSub,Nat.reduceMul,Nat.reduceLeDiff,Int.reduceEq,Nat.reduceEqDiff,zbr]
  rw [← h9]
  have q5:=zu (h:=h4) (o:=.cells (ints xs).toArray 104)
  have xq:Ext h4 (h4.push (.cells (ints xs).toArray 104)):=(Ext.refl h4).push _
  refine zb.mono (zh6 g k cl a n c es day _ (xq.get (x4.get hg)) (hr.ext (y4.trans xq)) hn (by omega) hok (by omega) hft) ?_
  rintro v h5 ⟨⟨aG,nG,cG,G,rfl,hGl,OG,hB,hS,⟨ps,hpm,hpt⟩,hmost⟩,x5⟩
  have y5:=(y4.trans xq).trans x5
  have q6:=x5.get q5
  have hk8:k≤8:=by omega
  obtain⟨S,hSe⟩:∃ S,S=G.map (·.2):=⟨_,rfl⟩
  have hSl:S.length=nG:=by rw [hSe,List.length_map]; exact hGl
  rw [← hSe] at hpm
  have hpt':LS.Pt (LS.zero (l8 es day) 8) (LS.msk (LS.opn (l8 es day)) 8) ps:=hpt
  have hmost':LS.Most (LS.zero (l8 es day) 8) (LS.msk (LS.opn (l8 es day)) 8) S.length:=by rw [hSl]; exact hmost
  have GG:=GS.of hpm hpt'
  have hlow:=zg4 (day:=day) hok
  have hlenS:=(zkI e0 hpm hpt' hmost').2
  have hOe:=zeg es day
  have hO:=zbx (bals 8 es day) 8
  have hpart:∀ i,(pysS (l8 es day) k (S.take i)).length≤8:=fun i=>by
    have h1:pysS (l8 es day) k S=pysS (l8 es day) k (S.take i)++pysS (l8 es day) k (S.drop i):=by
      unfold pysS pysL
      rw [← List.map_append,← List.flatMap_append,← List.map_append,List.take_append_drop]
    have h2:=congrArg List.length h1
    rw [List.length_append] at h2
    omega
  have hnG:nG≤8:=by omega
  simp only [za,Value.cells,Value.oneCell',Nat.reduceAdd,Nat.reduceSub,Nat.reduceMul,Nat.reduceLeDiff,Int.reduceEq,Nat.reduceEqDiff,zbr]
  refine zo [9,11,12,13,14,15,33,34,35,36,37,38,39,40,41,42,43,44,45,46,47,48,49,50,51,52,53,54,55,56,57,58,59,60,61,62,63,64,65,66,67,68,69,70,71,72,73,74,75] (fun e h'=>Ext h5 h'∧∃ i:Nat,i≤nG∧e 33=.int .i64 i∧∃ aP cP,e 9=.slice aP (pysS (l8 es day) k (S.take i)).length cP∧OwnV h5.size h' 139 3 aP (pysS (l8 es day) k (S.take i)).length cP (pmsV (pysS (l8 es day) k (S.take i)))) (fun e _=>match e 33 with | .int _ q=>nG - q.toNat | _=>0) ⟨Ext.refl _,0,by omega,rfl,none,0,rfl,OwnV.nil _ _ _ _⟩ ?_
  rintro e6 h6 ⟨x6,i,hi,he6,aP,cP,heP,OP⟩
  have y6:=y5.trans x6
  by_cases hin:i<nG
  case neg=>
    obtain rfl:nG=i:=by omega
    have htk:S.take nG=S:=List.take_of_length_le (by omega)
    rw [htk] at heP OP
    have hres:PayP k cl es day (.tuple #[.slice aP (pysS (l8 es day) k S).length cP,.int .i64 0]) h6:=.inl ⟨e0,aP,cP,S,ps,by rw [Int.toNat_natCast],by rw [Int.toNat_natCast]; exact OP.row,hpm,hpt',hmost'⟩
    simp only [he6,heP,show ¬ ((nG:Int)<(nG:Int)) by omega,decide_false,za,Value.cells,Value.oneCell',Nat.reduceAdd,Nat.reduceSub,Nat.reduceMul,Nat.reduceLeDiff,Int.reduceEq,Nat.reduceEqDiff,zbr]
    exact⟨hres,y6⟩
  have hlt:(i:Int)<(nG:Int):=by omega
  have meas:nG - ((i:Int)+1).toNat<nG - (i:Int).toNat:=by omega
  have hiG:i<(G.map (·.1)).length:=by rw [List.length_map]; omega
  have hcell:=zbw (OG.row.ext x6) (j:=i) hiG
  have sG:=(OG.row.ext x6).isSome (by rw [zF]; omega)
  obtain⟨gi,hgi⟩:∃ gi,gi=G[i]'(by omega):=⟨_,rfl⟩
  have hgm:gi∈G:=by rw [hgi]; exact List.getElem_mem _
  have eT:(G.map (·.1)).getD i (none,0,0)=gi.1:=by rw [List.getD_eq_getElem?_getD,List.getElem?_eq_getElem hiG,List.getElem_map,← hgi]; rfl
  have eS:S.getD i 0=gi.2:=by
    rw [hSe,List.getD_eq_getElem?_getD,List.getElem?_eq_getElem (by rw [List.length_map]; omega),List.getElem_map,← hgi]; rfl
  rw [eT] at hcell
  have hpS:gi.2∈S:=by rw [hSe]; exact List.mem_map.2 ⟨gi,hgm,rfl⟩
  obtain⟨p,hp⟩:∃ p,p=gi.2:=⟨_,rfl⟩
  obtain⟨t,ht⟩:∃ t,t=gi.1:=⟨_,rfl⟩
  have hBg:=(hB.ext x6) gi hgm
  rw [← hp,← ht] at hBg
  rw [← ht] at hcell
  rw [← hp] at eS hpS
  obtain⟨u,hu⟩:∃ u,u=acc p k:=⟨_,rfl⟩
  rw [← hu] at hBg
  obtain⟨hB1,OI⟩:=hBg
  have hu0:0<u.length:=by rw [hu]; exact GG.ne hlow hpS
  have hu8:u.length≤8:=by
    have:=ze1 p k
    rw [← hu] at this
    omega
  have hmem8:∀ x∈u,x<8:=fun x hx=>by
    rw [hu] at hx
    have:=(za4.1 hx).1
    omega
  have hcap:=OI.cap
  have hnx:=zr4 (l:=l8 es day) (k:=k) (S:=S) (i:=i) (by omega)
  rw [eS,← hu] at hnx
  have hchl:=ziv (l8 es day) u (List.length_pos_iff.1 hu0)
  have hsl:=zeK (lo:=1) (hi:=t.2.1) (c:=t.2.2) OI.ints (by omega) (Nat.le_refl _) hcap
  have e1:((t.2.1:Int) - 1).toNat=t.2.1 - 1:=by omega
  have e2:((t.2.2:Int) - 1).toNat=t.2.2 - 1:=by omega
  obtain⟨sl,hsle⟩:∃ sl,sl=(if (t.2.2:Int)=((1:Nat):Int) then t.1 else eltP t.1 1):=⟨_,rfl⟩
  have hsle2:(if (t.2.2:Int)=1 then t.1 else eltP t.1 1)=sl:=by rw [hsle]; rfl
  rw [← hsle] at hsl
  have hdl:((nz u).drop 1).take (t.2.1 - 1)=(nz u).drop 1:=List.take_of_length_le (by rw [List.length_drop,zaf]; omega)
  rw [hdl] at hsl
  have st:t.1.isSome=true:=OI.ints.isSome (by rw [zaf]; exact hu0)
  have hpl:=hpart i
  have hpl2:=hpart (i+1)
  have hnl:=congrArg List.length hnx
  rw [List.length_append,List.length_map] at hnl
  simp only [he6,heP,hlt,hcell,e1,e2,hsle2,decide_true,Int.toNat_natCast,za,Value.cells,Value.oneCell',Nat.reduceAdd,Nat.reduceSub,Nat.reduceMul,Nat.reduceLeDiff,Int.reduceEq,Nat.reduceEqDiff,zbr]
  refine⟨by omega,sG,by omega,by omega,by omega,by omega,?_⟩
  refine zo [9,12,13,14,15,40,41,42,43,44,45,46,47,48,49,50,51,52,53,54,55,56,57,58,59,60,61,62,63,64,65,66,67,68,69,70,71,72,73,74] (fun e h'=>Ext h5 h'∧∃ j:Nat,j≤u.length - 1∧e 40=.int .i64 j∧e 12=.int .i64 (LS.lsum (l8 es day) (u.take j))∧∃ aP cP,e 9=.slice aP ((pysS (l8 es day) k (S.take i)).length+j) cP∧OwnV h5.size h' 139 3 aP ((pysS (l8 es day) k (S.take i)).length+j) cP (pmsV (pysS (l8 es day) k (S.take i)++((List.range j).map (prL (l8 es day) u)).map pmP))) (fun e _=>match e 40 with | .int _ q=>(u.length - 1) - q.toNat | _=>0) ⟨x6,0,by omega,rfl,rfl,aP,cP,by rw [Nat.add_zero]; rfl,by rw [Nat.add_zero,List.range_zero,List.map_nil,List.map_nil,List.append_nil]; exact OP⟩ ?_
  rintro e7 h7 ⟨x7,j,hj,he7,he12,aQ,cQ,heQ,OQ⟩
  by_cases hju:j<u.length - 1
  case neg=>
    obtain rfl:j=u.length - 1:=by omega
    have hl2:¬ ((u.length - 1:Nat):Int)<((t.2.1 - 1:Nat):Int):=by omega
    rw [← zoK,← hnx] at OQ
    have ell:(pysS (l8 es day) k (S.take i)).length+(u.length - 1)=(pysS (l8 es day) k (S.take (i+1))).length:=by omega
    rw [ell] at OQ heQ
    simp only [he6,he7,heQ,hl2,decide_false,za,Value.cells,Value.oneCell',Nat.reduceAdd,Nat.reduceSub,Nat.reduceMul,Nat.reduceLeDiff,Int.reduceEq,Nat.reduceEqDiff,zbr]
    exact⟨by rw [zf]; omega,zi (by kernel_rfl) ⟨x7,i+1,by omega,rfl,aQ,cQ,rfl,OQ⟩ meas⟩
  have hj2:(j:Int)<((t.2.1 - 1:Nat):Int):=by omega
  have measj:(u.length - 1) - ((j:Int)+1).toNat<(u.length - 1) - (j:Int).toNat:=by omega
  have OI7:=(hB.ext x7) gi hgm
  rw [← hp,← ht,← hu] at OI7
  have I7:=OI7.2.ints
  have x67:Row h7 sl (ints ((nz u).drop 1)):=by
    have hs7:=zeK (lo:=1) (hi:=t.2.1) (c:=t.2.2) I7 (by omega) (Nat.le_refl _) hcap
    rw [← hsle,hdl] at hs7
    exact hs7.row
  have hs7:=zeK (lo:=1) (hi:=t.2.1) (c:=t.2.2) I7 (by omega) (Nat.le_refl _) hcap
  rw [← hsle,hdl] at hs7
  have hd7:((nz u).drop 1).length=u.length - 1:=by rw [List.length_drop,zaf]
  have cb:=hs7.cell (j:=j) (by omega)
  have ss:=hs7.isSome (by omega)
  have eb:((nz u).drop 1).getD j 0=((u.getD (j+1) 0:Nat):Int):=by
    rw [List.getD_eq_getElem?_getD,List.getElem?_drop,← List.getD_eq_getElem?_getD,Nat.add_comm 1 j,zb9]
  rw [eb] at cb
  have ca:=I7.cell (j:=j) (by rw [zaf]; omega)
  rw [zb9] at ca
  have q7:=x7.get q6
  have hua:u.getD j 0<8:=hmem8 _ (by rw [List.getD_eq_getElem?_getD,List.getElem?_eq_getElem (by omega)]; exact List.getElem_mem _)
  have ce:(ints xs)[u.getD j 0]?=some (.int .i64 (xs.getD (u.getD j 0) 0)):=ints_getElem? _ _ (by omega)
  have hxg:xs.getD (u.getD j 0) 0=l8 es day (u.getD j 0):=by rw [hxs]; rfl
  have hln:=zrh (l:=l8 es day) (u:=u) (j:=j) (by omega)
  have hb1:=zkb (day:=day) (p:=p) (t:=j+1) hk8 hok hl2
  rw [← hu] at hb1
  obtain⟨left,hleft⟩:∃ left,left=LS.lsum (l8 es day) (u.take (j+1)):=⟨_,rfl⟩
  rw [← hleft] at hln hb1
  rw [hxg] at ce
  have hprn:((List.range (j+1)).map (prL (l8 es day) u)).map pmP=((List.range j).map (prL (l8 es day) u)).map pmP++[pmP (prL (l8 es day) u j)]:=by
    rw [List.range_succ,List.map_append,List.map_append]; rfl
  simp only [he7,he12,heQ,hj2,ca,cb,q7,ce,← hln,decide_true,Int.toNat_natCast,splice,List.take,List.drop,List.nil_append,List.cons_append,List.append_nil,List.length_cons,List.length_nil,Nat.zero_add,Nat.reduceAdd,Nat.reduceLeDiff,if_true,za,Value.cells,Value.oneCell',Nat.reduceAdd,Nat.reduceSub,Nat.reduceMul,Nat.reduceLeDiff,Int.reduceEq,Nat.reduceEqDiff,zbr]
  refine⟨by omega,ss,⟨by omega,by omega⟩,st,⟨by omega,by omega⟩,by rw [zf]; omega,⟨by omega,by omega⟩,st,?_⟩
  refine zax zu (by simp) fun h8 g8 u8=>?_
  simp only [splice,List.take,List.drop,List.nil_append,List.append_nil,List.length_cons,List.length_nil] at g8
  have x8:Ext h7 h8:=u8.ext ((Ext.refl h7).push _) (Nat.le_refl _)
  have fin:∀ (h9:Eng.Heap) (pm:Pm),Ext h7 h9→pm=pmP (prL (l8 es day) u j)→∀ (a':Option Addr) (cap':Nat) (h10:Eng.Heap),OwnV h5.size h10 139 3 a' ((pysS (l8 es day) k (S.take i)).length+j+1) cap' (pmsV (pysS (l8 es day) k (S.take i)++((List.range j).map (prL (l8 es day) u)).map pmP++[pm]))→OwnV h5.size h10 139 3 a' ((pysS (l8 es day) k (S.take i)).length+(j+1)) cap' (pmsV (pysS (l8 es day) k (S.take i)++((List.range (j+1)).map (prL (l8 es day) u)).map pmP)):=fun h9 pm _ hpm a' cap' h10 O=>by
    rw [hprn,← List.append_assoc,← hpm]
    exact O
  by_cases hneg:left<0
  · have ca8:zT h8 (eltP t.1 j)=some (.int .i64 (u.getD j 0:Nat)):=by
      have I8:=(OI7.2.ext x8).ints
      have:=I8.cell (j:=j) (by rw [zaf]; omega)
      rw [zb9] at this
      exact this
    have ez:(0:Int) - left=-left:=by omega
    simp only [hneg,ca8,g8,ez,decide_true,Int.toNat_natCast,splice,List.take,List.drop,List.nil_append,List.cons_append,List.append_nil,List.length_cons,List.length_nil,Nat.zero_add,Nat.reduceAdd,Nat.reduceLeDiff,if_true,za,Value.cells,Value.oneCell',Nat.reduceAdd,Nat.reduceSub,Nat.reduceMul,Nat.reduceLeDiff,Int.reduceEq,Nat.reduceEqDiff,zbr]
    refine⟨by omega,st,by rw [zf]; omega,?_⟩
    refine zax g8 (by simp) fun h9 g9 u9=>?_
    simp only [splice,List.take,List.drop,List.nil_append,List.append_nil,List.length_cons,List.length_nil] at g9
    have x9:Ext h7 h9:=u9.ext x8 (Nat.le_refl _)
    have xb:Ext h9 (h9.push (.cells #[.int .i64 (u.getD (j+1) 0:Nat),.int .i64 (u.getD j 0:Nat),.int .i64 (-left)] 139)):=(Ext.refl h9).push _
    simp only [heQ,g9,splice,List.take,List.drop,List.nil_append,List.cons_append,List.append_nil,List.length_cons,List.length_nil,Nat.zero_add,Nat.reduceAdd,Nat.reduceLeDiff,if_true,za,Value.cells,Value.oneCell',Nat.reduceAdd,Nat.reduceSub,Nat.reduceMul,Nat.reduceLeDiff,Int.reduceEq,Nat.reduceEqDiff,zbr]
    refine⟨by decide,?_⟩
    have z9:=(x7.trans x9).size
    refine app77 (m0:=h5.size) (m:=1) (qs:=[⟨(u.getD (j+1) 0:Nat),(u.getD j 0:Nat),-left⟩]) rfl rfl ((OQ.ext x9).ext xb) (by rw [zaa]; omega) (Row.block (c:=pmsV [⟨(u.getD (j+1) 0:Nat),(u.getD j 0:Nat),-left⟩]) zu) rfl (by omega) fun a' cap' h10 O10 A10=>?_
    have O11:=fin h9 _ x9 (by unfold prL LS.pay; rw [← hleft,if_pos hneg]; rfl) a' cap' h10 O10
    simp only [he7,za,Value.cells,Value.oneCell',Nat.reduceAdd,Nat.reduceSub,Nat.reduceMul,Nat.reduceLeDiff,Int.reduceEq,Nat.reduceEqDiff,zbr]
    exact⟨by rw [zf]; omega,zi (by kernel_rfl) ⟨A10.extV ((OQ.ext x9).ext xb) ((x7.trans x9).trans xb) (Nat.le_refl _),j+1,by omega,rfl,by rw [← hleft]; rfl,a',cap',by rw [← Nat.add_assoc]; rfl,O11⟩ measj⟩
  · have xb:Ext h8 (h8.push (.cells #[.int .i64 (u.getD j 0:Nat),.int .i64 (u.getD (j+1) 0:Nat),.int .i64 left] 139)):=(Ext.refl h8).push _
    simp only [hneg,heQ,g8,decide_false,splice,List.take,List.drop,List.nil_append,List.cons_append,List.append_nil,List.length_cons,List.length_nil,Nat.zero_add,Nat.reduceAdd,Nat.reduceLeDiff,if_true,za,Value.cells,Value.oneCell',Nat.reduceAdd,Nat.reduceSub,Nat.reduceMul,Nat.reduceLeDiff,Int.reduceEq,Nat.reduceEqDiff,zbr]
    refine⟨by decide,?_⟩
    have z8:=(x7.trans x8).size
    refine app77 (m0:=h5.size) (m:=1) (qs:=[⟨(u.getD j 0:Nat),(u.getD (j+1) 0:Nat),left⟩]) rfl rfl ((OQ.ext x8).ext xb) (by rw [zaa]; omega) (Row.block (c:=pmsV [⟨(u.getD j 0:Nat),(u.getD (j+1) 0:Nat),left⟩]) zu) rfl (by omega) fun a' cap' h10 O10 A10=>?_
    have O11:=fin h8 _ x8 (by unfold prL LS.pay; rw [← hleft,if_neg hneg]; rfl) a' cap' h10 O10
    simp only [he7,za,Value.cells,Value.oneCell',Nat.reduceAdd,Nat.reduceSub,Nat.reduceMul,Nat.reduceLeDiff,Int.reduceEq,Nat.reduceEqDiff,zbr]
    exact⟨by rw [zf]; omega,zi (by kernel_rfl) ⟨A10.extV ((OQ.ext x8).ext xb) ((x7.trans x8).trans xb) (Nat.le_refl _),j+1,by omega,rfl,by rw [← hleft]; rfl,a',cap',by rw [← Nat.add_assoc]; rfl,O11⟩ measj⟩
end Go.Proofs.YtepaekbjoombpaaGreatDoor
end
