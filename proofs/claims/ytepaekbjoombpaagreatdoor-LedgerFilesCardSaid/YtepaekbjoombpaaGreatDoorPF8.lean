/- Texts joined by pack.py: lemmas for YtepaekbjoombpaaGreatDoorFiles. No condition. -/
import Derived.Test.YtepaekbjoombpaaGreatDoorPF7
set_option linter.unusedSimpArgs false
set_option linter.unusedVariables false
set_option linter.defProp false
section
namespace Go.Proofs.YtepaekbjoombpaaGreatDoor
open Go Go.Proofs Go.Eng Go.Run Tab
set_option maxRecDepth 100000
set_option linter.unusedSimpArgs false
set_option linter.unusedVariables false
set_option linter.defProp false
set_option maxHeartbeats 2000000
set_option linter.defProp false
def za9:=(And.intro (And.intro (And.intro @agg9 @by2) (And.intro @by9 (And.intro @inf2 @inf9))) (And.intro (And.intro @sz2 (And.intro @sz9 @zero2)) (And.intro @Tryz.underlying9 (And.intro @Tryz.underlying37 @Tryz.underlying65))))
def zcG (s:ByteArray):List UInt8:=bl (s.extract 0 (s.size - 2))
theorem zjv {w:List UInt8}:numI w<0↔¬ (zaP w∧w.length≤6):=by
  by_cases h:zaP w∧w.length≤6
  · rw [zgH h]
    exact⟨fun hh=>by omega,fun hh=>absurd h hh⟩
  · rw [zd8 h]
    exact⟨fun _=>h,fun _=>by omega⟩
def rdOK (s:ByteArray)(many:Nat):Prop:=zV s=true∧zet (zcG s) many
theorem zjB (s:ByteArray)(many:Nat)(h:Eng.Heap)(hs:s.size≤900) :
    zb Tryz.prog 95 #[.string s,.int .i64 many] h (fun v h'=>NumP 2 (rdOK s many) (zcG s) v h'∧Ext h h'):=by
  (refine zg Tryz.func95 rfl bod95 ?_; simp only [Tryz.ntmps95,Tryz.results95,za,zm,splice,Value.cells,Value.oneCell',Nat.reduceAdd,Nat.reduceSub,Nat.reduceMul,Nat.reduceLeDiff,Int.reduceEq,Nat.reduceEqDiff,za9])
  refine zb.mono (line86 s h (by omega)) ?_
  rintro v h1 ⟨rfl,rfl⟩
  cases hL:zV s with
  | false=>
    simp only [Bool.not_false,za,Value.cells,Value.oneCell',Nat.reduceAdd,Nat.reduceSub,Nat.reduceMul,Nat.reduceLeDiff,Int.reduceEq,Nat.reduceEqDiff,za9]
    exact⟨.inr ⟨fun hh=>absurd (hL.symm.trans hh.1) (by decide),rfl⟩,Ext.refl _⟩
  | true=>
  obtain⟨h3,-⟩:=(zam s).1 hL
  have e2:((s.size:Nat):Int) - 2=((s.size - 2:Nat):Int):=by omega
  obtain⟨T,hT⟩:∃ T,T=s.extract 0 (s.size - 2):=⟨_,rfl⟩
  have hTs:T.size=s.size - 2:=by rw [hT,zbI _ _ _ (by omega) (by omega)]; omega
  have hTx:zcG s=bl T:=by unfold zcG; rw [hT]
  simp only [e2,Bool.not_true,Int.toNat_natCast,za,Value.cells,Value.oneCell',Nat.reduceAdd,Nat.reduceSub,Nat.reduceMul,Nat.reduceLeDiff,Int.reduceEq,Nat.reduceEqDiff,za9]
  rw [← hT,hTx]
  obtain⟨P,hP⟩:∃ P,P=FL.prt 32 (bl T):=⟨_,rfl⟩
  have hPl:=zcv 32 (bl T)
  have hPc:=List.count_le_length (a:=(32:UInt8)) (l:=bl T)
  rw [zz] at hPc
  rw [← hP] at hPl
  refine⟨by rw [ze]; omega,by omega,by omega,by omega,?_⟩
  refine zb.mono (zl9 T 32 h1 (by omega)) ?_
  rintro v h2 ⟨⟨aS,ws,cp,rfl,RS,hws⟩,x2⟩
  rw [← hP] at hws
  have hwl:ws.length=P.length:=by rw [← hws,List.length_map]
  have hnOK:rdOK s many↔P.length=many∧∀ w∈P,zaP w∧w.length≤6:=by unfold rdOK zet; rw [hTx,← hP]; exact⟨fun hh=>hh.2,fun hh=>⟨hL,hh⟩⟩
  by_cases hm:ws.length=many
  case neg=>
    have hmi:¬ ((ws.length:Nat):Int)=(many:Int):=by omega
    simp only [hmi,decide_false,Bool.not_false,za,Value.cells,Value.oneCell',Nat.reduceAdd,Nat.reduceSub,Nat.reduceMul,Nat.reduceLeDiff,Int.reduceEq,Nat.reduceEqDiff,za9]
    exact⟨.inr ⟨fun hh=>hm (by rw [hwl]; exact (hnOK.1 hh).1),rfl⟩,x2⟩
  have hmi:((ws.length:Nat):Int)=(many:Int):=by omega
  simp only [hmi,decide_true,Bool.not_true,za,Value.cells,Value.oneCell',Nat.reduceAdd,Nat.reduceSub,Nat.reduceMul,Nat.reduceLeDiff,Int.reduceEq,Nat.reduceEqDiff,za9]
  refine zK [4,5,7,8,22,23,24,25,26,27,28,29,30,31,32,33,34,35,36,37,38,39,40,41] (fun e h'=>Ext h2 h'∧∃ i:Nat,i≤many∧e 8=.int .i64 i∧(∀ w∈P.take i,zaP w∧w.length≤6)∧∃ aW cW,e 7=.slice aW i cW∧OwnI h2.size h' 2 aW i cW (nzF ((P.take i).map valW))) (fun e _=>match e 8 with | .int _ q=>many - q.toNat | _=>0) ⟨Ext.refl _,0,by omega,rfl,fun w hw=>by simp at hw,none,0,rfl,OwnI.nil _ _ _⟩ ?_
  rintro e h3 ⟨x3,i,hi,he,hok,aW,cW,heW,OW⟩
  by_cases him:i<many
  · have hlt:(i:Int)<(many:Int):=by omega
    have meas:many - ((i:Int)+1).toNat<many - (i:Int).toNat:=by omega
    have hiw:i<ws.length:=by omega
    have hiP:i<P.length:=by omega
    have ci:=zb4 (RS.ext x3) hiw
    have si:=zdN RS (by omega)
    obtain⟨w,hw⟩:∃ w,w=ws[i]:=⟨_,rfl⟩
    have hbw:=zfX hws hiw
    rw [← hw] at ci hbw
    have hwl2:=zdb 32 (bl T) (w:=P[i]) (by rw [← hP]; exact List.getElem_mem hiP)
    rw [← hbw,zz,zz] at hwl2
    simp only [he,heW,hmi,hlt,ci,decide_true,Int.toNat_natCast,za,Value.cells,Value.oneCell',Nat.reduceAdd,Nat.reduceSub,Nat.reduceMul,Nat.reduceLeDiff,Int.reduceEq,Nat.reduceEqDiff,za9]
    refine⟨by omega,si,?_⟩
    refine zb.mono (ziR w h3 (by omega)) ?_
    rintro v h4 ⟨rfl,rfl⟩
    rw [hbw]
    by_cases hg:zaP P[i]∧P[i].length≤6
    case neg=>
      have hlz:numI P[i]<0:=zjv.2 hg
      simp only [he,heW,hlz,decide_true,za,Value.cells,Value.oneCell',Nat.reduceAdd,Nat.reduceSub,Nat.reduceMul,Nat.reduceLeDiff,Int.reduceEq,Nat.reduceEqDiff,za9]
      exact⟨.inr ⟨fun hk=>hg ((hnOK.1 hk).2 _ (List.getElem_mem hiP)),rfl⟩,x2.trans x3⟩
    have hlz:¬ numI P[i]<0:=fun hh=>zjv.1 hh hg
    simp only [he,heW,hlz,ci,decide_false,Int.toNat_natCast,za,Value.cells,Value.oneCell',Nat.reduceAdd,Nat.reduceSub,Nat.reduceMul,Nat.reduceLeDiff,Int.reduceEq,Nat.reduceEqDiff,za9]
    refine⟨by omega,si,?_⟩
    refine zb.mono (ziR w h4 (by omega)) ?_
    rintro v h5 ⟨rfl,rfl⟩
    rw [hbw,zgH hg]
    simp only [he,heW,za,Value.cells,Value.oneCell',Nat.reduceAdd,Nat.reduceSub,Nat.reduceMul,Nat.reduceLeDiff,Int.reduceEq,Nat.reduceEqDiff,za9]
    have x5:Ext h5 (h5.push (.cells #[.int .i64 (valW P[i])] 2)):=(Ext.refl h5).push _
    refine appF37 (m0:=h2.size) (m:=1) (ys:=[(valW P[i]:Int)]) rfl rfl (OW.ext x5) (x3.trans x5).size (zJ.block (xs:=[(valW P[i]:Int)]) zy) (by omega) fun a' cap' h6 O6 A6=>?_
    have et:nzF ((P.take i).map valW)++[(valW P[i]:Int)]=nzF ((P.take (i+1)).map valW):=by
      rw [zbu P hiP,List.map_append,zml]; rfl
    rw [et] at O6
    simp only [he,za,Value.cells,Value.oneCell',Nat.reduceAdd,Nat.reduceSub,Nat.reduceMul,Nat.reduceLeDiff,Int.reduceEq,Nat.reduceEqDiff,za9]
    refine⟨by rw [ze]; omega,zx (by kernel_rfl) ⟨A6.ext (OW.ext x5) (x3.trans x5) (Nat.le_refl _),i+1,by omega,rfl,fun u hu=>?_,a',cap',rfl,O6⟩ meas⟩
    rw [zbu P hiP] at hu
    rcases List.mem_append.1 hu with hu | hu
    · exact hok u hu
    · rw [List.mem_singleton.1 hu]; exact hg
  obtain rfl:many=i:=by omega
  rw [List.take_of_length_le (by omega)] at hok OW
  have e1:(numsL (bl T)).length=many:=by unfold numsL; rw [List.length_map,← hP]; omega
  have e2:numsL (bl T)=P.map valW:=by unfold numsL; rw [hP]
  simp only [he,heW,hmi,show ¬ ((many:Int)<(many:Int)) by omega,decide_false,za,Value.cells,Value.oneCell',Nat.reduceAdd,Nat.reduceSub,Nat.reduceMul,Nat.reduceLeDiff,Int.reduceEq,Nat.reduceEqDiff,za9]
  refine⟨.inl ⟨hnOK.2 ⟨by omega,hok⟩,aW,cW,by rw [e1],by rw [e1,e2]; exact OW.mono (Nat.zero_le _)⟩,x2.trans x3⟩
end Go.Proofs.YtepaekbjoombpaaGreatDoor
end
section
namespace Go.Proofs.YtepaekbjoombpaaGreatDoor
open Go Go.Proofs Go.Eng
set_option maxRecDepth 100000
set_option linter.unusedSimpArgs false
set_option linter.unusedVariables false
set_option linter.defProp false
def lnsB (s:ByteArray):List ByteArray:=(FL.prt 10 (bl (s.extract 0 (s.size - 1)))).map bs
def zaf (n i:Nat):Nat:=if i=0 then 2 else if i+1=n then 2 else 4
def rowN (w:ByteArray):List Nat:=numsL (zcG w)
def rgtB (w:ByteArray):Bool:=decide (w.extract (w.size - 1) w.size=zbU (w.extract 0 (w.size - 2)))
def enOf (l:List Nat):En:=⟨(l.getD 0 0:Nat),(l.getD 1 0:Nat),(l.getD 2 0:Nat),(l.getD 3 0:Nat)⟩
def midL {α:Type}(L:List α):List α:=(L.drop 1).take (L.length - 2)
def esOf (L:List ByteArray):List En:=(midL L).map fun w=>enOf (rowN w)
def zbE (L:List ByteArray):Nat:=(rowN (L.getD 0 ⟨#[]⟩)).getD 0 0
def zdd (L:List ByteArray):Nat:=(rowN (L.getD 0 ⟨#[]⟩)).getD 1 0
def zdM (L:List ByteArray):List Nat:=rowN (L.getD (L.length - 1) ⟨#[]⟩)
def zc8 (L:List ByteArray):Prop:=∀ i,i<L.length→rdOK (L.getD i ⟨#[]⟩) (zaf L.length i)
def zeL (L:List ByteArray):Prop:=(zdM L).getD 0 0=(esOf L).length∧(((zdM L).getD 1 0:Nat):Int)=totL (esOf L)
noncomputable def ldE (s:ByteArray):Int:=open Classical in
  if 400<s.size then 7
  else if ¬ (lstB s 10=true∧2≤(lnsB s).length) then 8
  else if ¬ zc8 (lnsB s) then 8
  else if ¬ (lnsB s).all rgtB=true then 14
  else if ¬ zeL (lnsB s) then 15
  else chk (zbE (lnsB s)) (zdd (lnsB s)) (esOf (lnsB s))
def LdP (s:ByteArray)(v:Value)(h':Eng.Heap):Prop:=
  (ldE s=0∧∃ a n c,v=.tuple #[.agg #[.int .i64 (zbE (lnsB s)),.int .i64 (zdd (lnsB s)),.slice a n c],.int .i64 0]∧n=(esOf (lnsB s)).length∧Row h' a (ensV (esOf (lnsB s)))) ∨
  (ldE s≠0∧v=.tuple #[.agg #[.int .i64 0,.int .i64 0,.slice none 0 0],.int .i64 (ldE s)])
section
variable {s:ByteArray}
theorem zkO (h:400<s.size):ldE s=7:=by unfold ldE; rw [if_pos h]
theorem zdJ (h:¬ 400<s.size)(h1:¬ (lstB s 10=true∧2≤(lnsB s).length)):ldE s=8:=by unfold ldE; rw [if_neg h,if_pos h1]
theorem zju (h:¬ 400<s.size)(h1:lstB s 10=true∧2≤(lnsB s).length)(h2:¬ zc8 (lnsB s)):ldE s=8:=by unfold ldE; rw [if_neg h,if_neg (fun hh=>hh h1),if_pos h2]
theorem zma (h:¬ 400<s.size)(h1:lstB s 10=true∧2≤(lnsB s).length)(h2:zc8 (lnsB s))(h3:(lnsB s).all rgtB=false):ldE s=14:=by
  unfold ldE; rw [if_neg h,if_neg (fun hh=>hh h1),if_neg (fun hh=>hh h2),if_pos (by rw [h3]; decide)]
theorem zgb (h:¬ 400<s.size)(h1:lstB s 10=true∧2≤(lnsB s).length)(h2:zc8 (lnsB s))(h3:(lnsB s).all rgtB=true)(h4:¬ zeL (lnsB s)):ldE s=15:=by
  unfold ldE; rw [if_neg h,if_neg (fun hh=>hh h1),if_neg (fun hh=>hh h2),if_neg (fun hh=>hh h3),if_pos h4]
theorem zl6 (h:¬ 400<s.size)(h1:lstB s 10=true∧2≤(lnsB s).length)(h2:zc8 (lnsB s))(h3:(lnsB s).all rgtB=true)(h4:zeL (lnsB s)):ldE s=chk (zbE (lnsB s)) (zdd (lnsB s)) (esOf (lnsB s)):=by
  unfold ldE; rw [if_neg h,if_neg (fun hh=>hh h1),if_neg (fun hh=>hh h2),if_neg (fun hh=>hh h3),if_neg (fun hh=>hh h4)]
end
theorem ws_bs {ws:List ByteArray}{P:List (List UInt8)}(h:ws.map bl=P):P.map bs=ws:=by
  rw [← h,List.map_map]
  exact (List.map_congr_left fun w _=>bs_bl w).trans (List.map_id _)
theorem zcw {w:ByteArray}{many:Nat}(h:rdOK w many):(rowN w).length=many:=by
  unfold rowN numsL
  rw [List.length_map]
  exact h.2.1
theorem zk3 (c:UInt8):∀ l:List UInt8,FL.prt c (l++[c])=FL.prt c l++[[]]
  | []=>by
    show FL.prt c [c]=_
    simp [FL.prt]
  | x::l=>by
    have ih:=zk3 c l
    rw [List.cons_append,FL.prt,FL.prt,ih]
    split
    · rfl
    · cases hp:FL.prt c l with
      | nil=>exact absurd hp (FL.zdx c l)
      | cons w ws=>rfl
theorem zjH (c:UInt8):∀ l:List UInt8,(FL.prt c l).getLast?=some []→l=[]∨l.getLast?=some c
  | [],_=>.inl rfl
  | x::l,h=>by
    have ih:=zjH c l
    rw [FL.prt] at h
    right
    have fin:l=[]∨l.getLast?=some c→(l=[]→x=c)→(x::l).getLast?=some c:=fun h1 h2=>by
      rcases h1 with h1 | h1
      · rw [h1,h2 h1]; rfl
      · rw [List.getLast?_cons,h1]; rfl
    split at h
    · rename_i hx
      have hne:=FL.zdx c l
      rw [List.getLast?_cons] at h
      cases hp:(FL.prt c l).getLast? with
      | none=>rw [List.getLast?_eq_none_iff] at hp; exact absurd hp hne
      | some w=>
        rw [hp] at h ih
        exact fin (ih h) fun _=>hx
    · cases hp:FL.prt c l with
      | nil=>exact absurd hp (FL.zdx c l)
      | cons w ws=>
        rw [hp] at h ih
        cases ws with
        | nil=>simp at h
        | cons v ws=>
          rw [List.getLast?_cons_cons] at h
          refine fin (ih (by rw [List.getLast?_cons_cons]; exact h)) fun e=>?_
          rw [e] at hp
          cases hp
theorem mid_get {α:Type}{L:List α}{i:Nat}(d:α)(hi:i<L.length - 2):(midL L).getD i d=L.getD (i+1) d:=by
  unfold midL
  rw [List.getD_eq_getElem?_getD,List.getElem?_take,if_pos hi,List.getElem?_drop,List.getD_eq_getElem?_getD,Nat.add_comm 1 i]
theorem zl2 {α:Type}(L:List α):(midL L).length=L.length - 2:=by
  unfold midL
  rw [List.length_take,List.length_drop]
  omega
theorem row_lt {w:ByteArray}{many:Nat}(h:rdOK w many):∀ x∈rowN w,x<1000000:=by
  intro x hx
  unfold rowN numsL at hx
  obtain⟨u,hu,rfl⟩:=List.mem_map.1 hx
  obtain⟨h1,h2⟩:=h.2.2 u hu
  have hv:=zda u u.length (Nat.le_refl _) fun j hj=>by
    rw [List.getD_eq_getElem?_getD,List.getElem?_eq_getElem hj]
    exact h1.2.1 _ (List.getElem_mem _)
  rw [List.take_length] at hv
  exact pow6 h2 hv
theorem zlg {w:ByteArray}{many:Nat}(h:rdOK w many)(i:Nat):(rowN w).getD i 0<1000000:=by
  rw [List.getD_eq_getElem?_getD]
  by_cases hi:i<(rowN w).length
  · rw [List.getElem?_eq_getElem hi]
    exact row_lt h _ (List.getElem_mem hi)
  · rw [List.getElem?_eq_none (by omega)]
    decide
theorem frm_mem {L:List ByteArray}(h:zc8 L){w:ByteArray}(hw:w∈L):∃ many,rdOK w many:=by
  obtain⟨i,hi,rfl⟩:=List.mem_iff_getElem.1 hw
  have:=h i hi
  rw [List.getD_eq_getElem?_getD,List.getElem?_eq_getElem hi] at this
  exact⟨_,this⟩
theorem mid_mem {α:Type}{L:List α}{x:α}(h:x∈midL L):x∈L:=List.mem_of_mem_drop (List.mem_of_mem_take h)
theorem ziw {L:List ByteArray}(h:zc8 L):∀ e∈esOf L,0≤e.a∧e.a≤1000000:=by
  intro e he
  obtain⟨w,hw,rfl⟩:=List.mem_map.1 he
  obtain⟨many,hr⟩:=frm_mem h (mid_mem hw)
  have h1:=zlg hr 3
  show 0≤(((rowN w).getD 3 0:Nat):Int)∧(((rowN w).getD 3 0:Nat):Int)≤1000000
  omega
end Go.Proofs.YtepaekbjoombpaaGreatDoor
end
section
namespace Go.Proofs.YtepaekbjoombpaaGreatDoor
open Go Go.Proofs Go.Eng Go.Run Tab
set_option maxRecDepth 100000
set_option linter.unusedSimpArgs false
set_option linter.unusedVariables false
set_option linter.defProp false
set_option maxHeartbeats 4000000
set_option linter.defProp false
def zl:=(And.intro (And.intro (And.intro (And.intro (And.intro @zdV @zg1) (And.intro @agg3 @agg40)) (And.intro (And.intro @agg9 @by26) (And.intro @by3 (And.intro @by40 @by9)))) (And.intro (And.intro (And.intro @zcO @fps24_0) (And.intro @fps24_1 (And.intro @zmt @zmd))) (And.intro (And.intro @zmf @zmn) (And.intro @zdF (And.intro @zg0 @zbS))))) (And.intro (And.intro (And.intro (And.intro @inf3 @inf40) (And.intro @inf9 @okf24)) (And.intro (And.intro @okf26 @sz22) (And.intro @sz24 (And.intro @sz26 @sz3)))) (And.intro (And.intro (And.intro @sz40 @sz9) (And.intro @zjP (And.intro @zea @zero40))) (And.intro (And.intro @Tryz.underlying9 @Tryz.underlying22) (And.intro @Tryz.underlying40 (And.intro @Tryz.underlying65 @Tryz.underlying73))))))
abbrev HdF:=Option Addr × Nat × Nat
def hdF (t:HdF):Value:=.slice t.1 t.2.1 t.2.2
def hdsF (T:List HdF):List Value:=T.map hdF
theorem zdZ (T:List HdF):(hdsF T).length=T.length:=by simp [hdsF]
theorem zdL {h:Eng.Heap}{b:Option Addr}{T:List HdF}(R:Row h b (hdsF T)){j:Nat}(hj:j<T.length):zao h (eltP b j)=some (.slice (T.getD j (none,0,0)).1 (T.getD j (none,0,0)).2.1 (T.getD j (none,0,0)).2.2):=by
  have h1:=R.cell (j:=j) (by rw [zdZ]; exact hj)
  rw [h1,List.getD_eq_getElem?_getD,List.getElem?_eq_getElem hj]
  simp [hdsF,hdF]
theorem appF73 {h:Eng.Heap}{er:Env}{ty:TypeId}{m0:Nat}{x y:Operand}{a b:Option Addr}{len cap m c:Nat}{T U:List HdF}{K:Value→Eng.Heap→Prop}(hx:ev er x=.slice a len cap)(hy:ev er y=.slice b m c)(O:OwnV m0 h 40 1 a len cap (hdsF T))(h0h:m0≤h.size)(I:Row h b (hdsF U))(hm:m=U.length)(hb:len+m≤1000)
    (H:∀ a' cap' h',OwnV m0 h' 40 1 a' (len+m) cap' (hdsF (T++U))→App h h' a a'→K (.slice a' (len+m) cap') h'):zf Tryz.prog (.call ⟨.builtin .append,#[x,y],#[73,73]⟩) ty er h K:=
  zdp Tryz.underlying73 Tryz.underlying73 inf40 sz40 zero40 (by rfl) hx hy O h0h I (by rw [zdZ]; omega) (fun u hu=>by
    obtain⟨x,_,rfl⟩:=List.mem_map.1 hu
    rfl) (by omega) (by rw [by40]; omega) fun a' cap' h' O' A'=>H a' cap' h' (by
      have e:hdsF T++hdsF U=hdsF (T++U):=by simp [hdsF]
      rw [← e]; exact O') A'
theorem znO (a:Option Addr)(i j:Nat):eltP (eltP a i) j=eltP a (i+j):=by
  cases a with
  | none=>rfl
  | some p=>
    show some (addA (addA p i) j)=some (addA p (i+j))
    congr 1
    unfold addA
    by_cases h1:i=0 <;> by_cases h2:j=0 <;> simp [h1,h2,Nat.add_assoc]
theorem appF22 {h:Eng.Heap}{er:Env}{ty:TypeId}{m0:Nat}{x y:Operand}{a b:Option Addr}{len cap m c:Nat}{xs ys:List En}{K:Value→Eng.Heap→Prop}(hx:ev er x=.slice a len cap)(hy:ev er y=.slice b m c)(O:OwnV m0 h 26 4 a len cap (ensV xs))(h0h:m0≤h.size)(I:Row h b (ensV ys))(hm:ys.length=m)(hb:len+m≤1000)
    (H:∀ a' cap' h',OwnV m0 h' 26 4 a' (len+m) cap' (ensV (xs++ys))→App h h' a a'→K (.slice a' (len+m) cap') h'):zf Tryz.prog (.call ⟨.builtin .append,#[x,y],#[22,22]⟩) ty er h K:=
  zdp Tryz.underlying22 Tryz.underlying22 zbS sz26 zea (by rfl) hx hy O h0h I (by rw [zI,hm]) (fun u hu=>by
    simp only [ensV,List.mem_flatMap,enV] at hu
    obtain⟨e,_,hu⟩:=hu
    simp at hu
    rcases hu with rfl | rfl | rfl | rfl <;> rfl) (by omega) (by rw [by26]; omega) (fun a' cap' h' O' A=>H a' cap' h' (by rw [zlr]; exact O') A)
theorem zcx (L:List ByteArray):(esOf L).length=L.length - 2:=by unfold esOf; rw [List.length_map,zl2]
theorem ziv {L:List ByteArray}{j:Nat}(hj:j<L.length - 2):(esOf L).take (j+1)=(esOf L).take j++[enOf (rowN (L.getD (j+1) ⟨#[]⟩))]:=by
  rw [zbu _ (by rw [zcx]; exact hj)]
  have h1:=mid_get (L:=L) ⟨#[]⟩ hj
  congr 2
  rw [← h1,List.getD_eq_getElem?_getD,List.getElem?_eq_getElem (by rw [zl2]; exact hj)]
  unfold esOf
  rw [List.getElem_map]
  rfl
structure zcH (h:Eng.Heap)(T:List HdF)(L:List ByteArray)(i:Nat):Prop where
  len:T.length=i
  row:∀ j,j<i→OwnI 0 h 3 (T.getD j (none,0,0)).1 (T.getD j (none,0,0)).2.1 (T.getD j (none,0,0)).2.2 (nzF (rowN (L.getD j ⟨#[]⟩)))
theorem zcH.nil (h:Eng.Heap)(L:List ByteArray):zcH h [] L 0:=⟨rfl,fun j hj=>by omega⟩
theorem zcH.ext {h h':Eng.Heap}{T:List HdF}{L:List ByteArray}{i:Nat}(R:zcH h T L i)(x:Ext h h'):zcH h' T L i:=⟨R.len,fun j hj=>(R.row j hj).ext x⟩
theorem zcH.app {h h':Eng.Heap}{T:List HdF}{L:List ByteArray}{i m0:Nat}{aN:Option Addr}{n cN:Nat}{aT a':Option Addr}{lT cT:Nat}{vs:List Value}(R:zcH h T L i)(I:OwnI 0 h 3 aN n cN (nzF (rowN (L.getD i ⟨#[]⟩))))(A:App h h' aT a')(O:OwnV m0 h 40 1 aT lT cT vs):zcH h' (T++[(aN,n,cN)]) L (i+1):=by
  refine⟨by rw [List.length_append,List.length_singleton,R.len],fun j hj=>?_⟩
  by_cases hji:j=i
  · subst hji
    have hTl:=R.len
    rw [List.getD_eq_getElem?_getD,List.getElem?_append_right (by omega),hTl,Nat.sub_self]
    exact zgf I A O (by decide)
  · have hTl:=R.len
    rw [List.getD_eq_getElem?_getD,List.getElem?_append_left (by omega),← List.getD_eq_getElem?_getD]
    exact zgf (R.row j (by omega)) A O (by decide)
theorem load40 (s:ByteArray)(h:Eng.Heap)(F:Fx h)(hs:s.size≤700) :
    zb Tryz.prog 40 #[.string s] h (fun v h'=>LdP s v h'∧Ext h h'):=by
  (refine zg Tryz.func40 rfl bod40 ?_; simp only [Tryz.ntmps40,Tryz.results40,za,zm,splice,Value.cells,Value.oneCell',Nat.reduceAdd,Nat.reduceSub,Nat.reduceMul,Nat.reduceLeDiff,Int.reduceEq,Nat.reduceEqDiff,zl])
  obtain⟨h0,hh0⟩:∃ h0,h0=h.push (.cells #[.int .i64 0,.int .i64 0,.slice none 0 0] 24):=⟨_,rfl⟩
  have x0:Ext h h0:=by rw [hh0]; exact (Ext.refl h).push _
  have g0:h0[h.size]?=some (.cells #[.int .i64 0,.int .i64 0,.slice none 0 0] 24):=by rw [hh0]; exact zy
  rw [← hh0]
  by_cases c1:400<s.size
  · have c1i:(400:Int)<(s.size:Int):=by omega
    simp only [c1i,decide_true,za,Value.cells,Value.oneCell',Nat.reduceAdd,Nat.reduceSub,Nat.reduceMul,Nat.reduceLeDiff,Int.reduceEq,Nat.reduceEqDiff,zl]
    have e7:=zkO c1
    exact⟨.inr ⟨by omega,by rw [e7]⟩,x0⟩
  have c1i:¬ (400:Int)<(s.size:Int):=by omega
  simp only [c1i,decide_false,za,Value.cells,Value.oneCell',Nat.reduceAdd,Nat.reduceSub,Nat.reduceMul,Nat.reduceLeDiff,Int.reduceEq,Nat.reduceEqDiff,zl]
  refine zb.mono (zlp s 10 h0 (by omega)) ?_
  rintro v h1 ⟨rfl,rfl⟩
  cases hb:lstB s 10 with
  | false=>
    simp only [Bool.false_eq_true,if_false,za,Value.cells,Value.oneCell',Nat.reduceAdd,Nat.reduceSub,Nat.reduceMul,Nat.reduceLeDiff,Int.reduceEq,Nat.reduceEqDiff,zl]
    refine zb.mono (zhQ s 10 h1 (by omega)) ?_
    rintro v h2 ⟨⟨aS,ws,rfl,RS,hws⟩,x2⟩
    have g2:=x2.get g0
    simp only [g2,zi,za,Value.cells,Value.oneCell',Nat.reduceAdd,Nat.reduceSub,Nat.reduceMul,Nat.reduceLeDiff,Int.reduceEq,Nat.reduceEqDiff,zl]
    have e8:=zdJ c1 (fun hh=>by have:=hh.1; rw [hb] at this; cases this)
    refine zF g2 (by simp) fun h3 g3 u3=>?_
    simp only [splice,List.take,List.drop,List.nil_append,List.append_nil,List.length_cons,List.length_nil] at g3
    simp only [g3,za,Value.cells,Value.oneCell',Nat.reduceAdd,Nat.reduceSub,Nat.reduceMul,Nat.reduceLeDiff,Int.reduceEq,Nat.reduceEqDiff,zl]
    exact⟨.inr ⟨by omega,by rw [e8]⟩,u3.ext (x0.trans x2) (Nat.le_refl _)⟩
  | true=>
  have hlt0:0<s.size:=by
    unfold lstB at hb
    exact (of_decide_eq_true hb).1
  obtain⟨W,hW⟩:∃ W,W=s.extract 0 (s.size - 1):=⟨_,rfl⟩
  have hWs:W.size=s.size - 1:=by rw [hW,zbI _ _ _ (by omega) (by omega)]; omega
  simp only [if_true,za,Value.cells,Value.oneCell',Nat.reduceAdd,Nat.reduceSub,Nat.reduceMul,Nat.reduceLeDiff,Int.reduceEq,Nat.reduceEqDiff,zl]
  rw [← hW]
  refine zb.mono (zhQ W 10 h1 (by omega)) ?_
  rintro v h2 ⟨⟨aS,L,rfl,RS,hws⟩,x2⟩
  have hL:lnsB s=L:=by unfold lnsB; rw [← hW]; exact ws_bs hws
  have hLl:L.length=(bl W).count 10+1:=by rw [← zcv,← hws,List.length_map]
  have hLc:=List.count_le_length (a:=(10:UInt8)) (l:=bl W)
  rw [zz] at hLc
  by_cases c2:L.length<2
  · have c2i:((L.length:Nat):Int)<2:=by omega
    have g2:=x2.get g0
    simp only [g2,c2i,zi,decide_true,Bool.not_true,za,Value.cells,Value.oneCell',Nat.reduceAdd,Nat.reduceSub,Nat.reduceMul,Nat.reduceLeDiff,Int.reduceEq,Nat.reduceEqDiff,zl]
    have e8:=zdJ c1 (fun hh=>by have:=hh.2; rw [hL] at this; omega)
    refine zF g2 (by simp) fun h3 g3 u3=>?_
    simp only [splice,List.take,List.drop,List.nil_append,List.append_nil,List.length_cons,List.length_nil] at g3
    simp only [g3,za,Value.cells,Value.oneCell',Nat.reduceAdd,Nat.reduceSub,Nat.reduceMul,Nat.reduceLeDiff,Int.reduceEq,Nat.reduceEqDiff,zl]
    exact⟨.inr ⟨by omega,by rw [e8]⟩,u3.ext (x0.trans x2) (Nat.le_refl _)⟩
  have c2i:¬ ((L.length:Nat):Int)<2:=by omega
  simp only [c2i,zi,decide_false,Bool.not_true,za,Value.cells,Value.oneCell',Nat.reduceAdd,Nat.reduceSub,Nat.reduceMul,Nat.reduceLeDiff,Int.reduceEq,Nat.reduceEqDiff,zl]
  have h1f:lstB s 10=true∧2≤(lnsB s).length:=⟨hb,by rw [hL]; omega⟩
  have g2:=x2.get g0
  have F2:=F.ext (x0.trans x2)
  have form:∀ {i:Nat},i<L.length→¬ rdOK (L.getD i ⟨#[]⟩) (zaf L.length i)→ldE s=8:=fun {i} hi hh=>zju c1 h1f fun hk=>hh (by rw [hL] at hk; exact hk i hi)
  refine zK [3,7,8,9,10,11,12,13,14,15,16,43,44,45,46,47,48,49,50,51,52,53,54,55,56,57,58,59,60,61,62,63,64,65,66,67,68,69,70,71,72,73,74,75,76,77,78,79,80,81,82,83,84,85,86,87] (fun e h'=>Ext h2 h'∧∃ i:Nat,i≤L.length∧e 43=.int .i64 i∧e 8=.bool (!(L.take i).all rgtB)∧(∀ j,j<i→rdOK (L.getD j ⟨#[]⟩) (zaf L.length j))∧∃ aT cT,∃ T:List HdF,e 7=.slice aT i cT∧OwnV h2.size h' 40 1 aT i cT (hdsF T)∧zcH h' T L i) (fun e _=>match e 43 with | .int _ q=>L.length - q.toNat | _=>0) ⟨Ext.refl _,0,by omega,rfl,rfl,fun j hj=>by omega,none,0,[],rfl,OwnV.nil _ _ _ _,zcH.nil _ _⟩ ?_
  rintro e h3 ⟨x3,i,hi,he,he8,hok,aT,cT,T,heT,OT,RT⟩
  by_cases hin:i<L.length
  · have hlt:(i:Int)<(L.length:Int):=by omega
    have meas:L.length - ((i:Int)+1).toNat<L.length - (i:Int).toNat:=by omega
    have ci:=zb4 (RS.ext x3) hin
    have si:=zdN RS (by omega)
    obtain⟨w,hw⟩:∃ w,w=L[i]:=⟨_,rfl⟩
    have hwd:L.getD i ⟨#[]⟩=w:=by rw [hw,List.getD_eq_getElem?_getD,List.getElem?_eq_getElem hin]; rfl
    have hbw:=zfX hws hin
    rw [← hw] at ci hbw
    have hwl:=zdb 10 (bl W) (List.getElem_mem (l:=FL.prt 10 (bl W)) (n:=i) (by rw [← hws,List.length_map]; exact hin))
    rw [← hbw,zz,zz] at hwl
    have hcase:i=0∨(i≠0∧i+1=L.length)∨(i≠0∧i+1≠L.length):=by omega
    obtain⟨many,hmany⟩:∃ many,many=zaf L.length i:=⟨_,rfl⟩
    have hmz:many≠1:=by rw [hmany]; unfold zaf; split <;> (try split) <;> omega
    rcases hcase with k0 | ⟨k1,k2⟩ | ⟨k1,k2⟩
    case' inl=>
      have kd:decide ((i:Int)=0)=true:=decide_eq_true (by omega)
      have km:many=2:=by rw [hmany,zaf,if_pos k0]
      have kmi:(2:Int)=(many:Int):=by omega
      simp only [he,he8,heT,hlt,ci,kd,zi,decide_true,Int.toNat_natCast,za,Value.cells,Value.oneCell',Nat.reduceAdd,Nat.reduceSub,Nat.reduceMul,Nat.reduceLeDiff,Int.reduceEq,Nat.reduceEqDiff,zl]
      refine⟨by omega,si,?_⟩
    case' inr.inl=>
      have kd:decide ((i:Int)=0)=false:=decide_eq_false (by omega)
      have kd2:decide ((i:Int)=(L.length:Int) - 1)=true:=decide_eq_true (by omega)
      have km:many=2:=by rw [hmany,zaf,if_neg k1,if_pos k2]
      have kmi:(2:Int)=(many:Int):=by omega
      simp only [he,he8,heT,hlt,ci,kd,kd2,zi,decide_true,Int.toNat_natCast,za,Value.cells,Value.oneCell',Nat.reduceAdd,Nat.reduceSub,Nat.reduceMul,Nat.reduceLeDiff,Int.reduceEq,Nat.reduceEqDiff,zl]
      refine⟨by omega,si,by rw [ze]; omega,?_⟩
    case' inr.inr=>
      have kd:decide ((i:Int)=0)=false:=decide_eq_false (by omega)
      have kd2:decide ((i:Int)=(L.length:Int) - 1)=false:=decide_eq_false (by omega)
      have km:many=4:=by rw [hmany,zaf,if_neg k1,if_neg k2]
      have kmi:(4:Int)=(many:Int):=by omega
      simp only [he,he8,heT,hlt,ci,kd,kd2,zi,decide_true,Int.toNat_natCast,za,Value.cells,Value.oneCell',Nat.reduceAdd,Nat.reduceSub,Nat.reduceMul,Nat.reduceLeDiff,Int.reduceEq,Nat.reduceEqDiff,zl]
      refine⟨by omega,si,by rw [ze]; omega,?_⟩
    all_goals
      refine zb.mono (cut85 w h3 (by omega)) ?_
      rintro v h4 ⟨rfl,x4⟩
      have y4:=x3.trans x4
      cases hk:zV w with
      | false=>
        simp only [Bool.false_eq_true,if_false,za,Value.cells,Value.oneCell',Nat.reduceAdd,Nat.reduceSub,Nat.reduceMul,Nat.reduceLeDiff,Int.reduceEq,Nat.reduceEqDiff,zl]
        have n94:=ziW ⟨#[]⟩ many h4 (F2.ext y4) (Nat.zero_le _) (fun b hb=>by cases hb)
        rw [← kmi] at n94
        refine zb.mono n94 ?_
        rintro v h5 ⟨HN,x5⟩
        have y5:=y4.trans x5
        rcases HN with⟨hh,-⟩ | ⟨-,rfl⟩
        · exact absurd hh.1.symm hmz
        have g5:=y5.get g2
        simp only [g5,zi,Bool.not_false,Bool.not_true,za,Value.cells,Value.oneCell',Nat.reduceAdd,Nat.reduceSub,Nat.reduceMul,Nat.reduceLeDiff,Int.reduceEq,Nat.reduceEqDiff,zl]
        have e8:=form hin (by rw [hwd]; intro hh; have:=hh.1; rw [hk] at this; cases this)
        refine zF g5 (by simp) fun h6 g6 u6=>?_
        simp only [splice,List.take,List.drop,List.nil_append,List.append_nil,List.length_cons,List.length_nil] at g6
        simp only [g6,za,Value.cells,Value.oneCell',Nat.reduceAdd,Nat.reduceSub,Nat.reduceMul,Nat.reduceLeDiff,Int.reduceEq,Nat.reduceEqDiff,zl]
        exact⟨.inr ⟨by omega,by rw [e8]⟩,u6.ext (x0.trans (x2.trans y5)) (Nat.le_refl _)⟩
      | true=>
        obtain⟨hw3,hwt,-⟩:=(zam w).1 hk
        obtain⟨X,hX⟩:∃ X,X=w.extract 0 (w.size - 2):=⟨_,rfl⟩
        have hXt:zcG w=bl X:=by unfold zcG; rw [hX]
        simp only [if_true,za,Value.cells,Value.oneCell',Nat.reduceAdd,Nat.reduceSub,Nat.reduceMul,Nat.reduceLeDiff,Int.reduceEq,Nat.reduceEqDiff,zl]
        rw [← hX] at hwt ⊢
        have hX12:=zfJ hwt
        have n94:=ziW X many h4 (F2.ext y4) (by omega) (fun b hb=>by
          obtain⟨j,hj,rfl⟩:=List.mem_iff_getElem.1 hb
          have h9:=((zbW X).1 hwt).2 j (by rw [zz] at hj; exact hj)
          rw [zcc,List.getD_eq_getElem?_getD,List.getElem?_eq_getElem hj] at h9
          exact h9)
        rw [← kmi] at n94
        refine zb.mono n94 ?_
        rintro v h5 ⟨HN,x5⟩
        have y5:=y4.trans x5
        rcases HN with⟨hn,aN,cN,rfl,IN⟩ | ⟨hn,rfl⟩
        case inr=>
          have g5:=y5.get g2
          simp only [g5,zi,Bool.not_false,Bool.not_true,za,Value.cells,Value.oneCell',Nat.reduceAdd,Nat.reduceSub,Nat.reduceMul,Nat.reduceLeDiff,Int.reduceEq,Nat.reduceEqDiff,zl]
          have e8:=form hin (by rw [hwd,← hmany]; intro hh; have:=hh.2; rw [hXt] at this; exact hn this)
          refine zF g5 (by simp) fun h6 g6 u6=>?_
          simp only [splice,List.take,List.drop,List.nil_append,List.append_nil,List.length_cons,List.length_nil] at g6
          simp only [g6,za,Value.cells,Value.oneCell',Nat.reduceAdd,Nat.reduceSub,Nat.reduceMul,Nat.reduceLeDiff,Int.reduceEq,Nat.reduceEqDiff,zl]
          exact⟨.inr ⟨by omega,by rw [e8]⟩,u6.ext (x0.trans (x2.trans y5)) (Nat.le_refl _)⟩
        have hrd:rdOK w many:=⟨hk,by rw [hXt]; exact hn⟩
        have hrow:rowN w=numsL (bl X):=by unfold rowN; rw [hXt]
        rw [← hrow] at IN ⊢
        have hall:(L.take (i+1)).all rgtB=((L.take i).all rgtB&&rgtB w):=by
          rw [zbu L hin,← hw,List.all_append]
          simp
        have hok1:∀ j,j<i+1→rdOK (L.getD j ⟨#[]⟩) (zaf L.length j):=fun j hj=>by
          by_cases hji:j=i
          · rw [hji,hwd,← hmany]; exact hrd
          · exact hok j (by omega)
        cases hwr:(L.take i).all rgtB with
        | false=>
          rw [hwr,Bool.false_and] at hall
          simp only [he,he8,heT,hwr,zi,Bool.not_false,Bool.not_true,za,Value.cells,Value.oneCell',Nat.reduceAdd,Nat.reduceSub,Nat.reduceMul,Nat.reduceLeDiff,Int.reduceEq,Nat.reduceEqDiff,zl]
          have x6:Ext h5 (h5.push (.cells #[.slice aN (rowN w).length cN] 40)):=(Ext.refl h5).push _
          have OT6:=(OT.ext (x4.trans x5)).ext x6
          have RT6:=(RT.ext (x4.trans x5)).ext x6
          refine appF73 (m0:=h2.size) (m:=1) (U:=[(aN,(rowN w).length,cN)]) rfl rfl OT6 (y5.trans x6).size (Row.block (c:=hdsF [(aN,(rowN w).length,cN)]) zy) rfl (by omega) fun a' cap' h7 O7 A7=>?_
          simp only [he,za,Value.cells,Value.oneCell',Nat.reduceAdd,Nat.reduceSub,Nat.reduceMul,Nat.reduceLeDiff,Int.reduceEq,Nat.reduceEqDiff,zl]
          exact⟨by rw [ze]; omega,zx (by kernel_rfl) ⟨A7.extV OT6 (y5.trans x6) (Nat.le_refl _),i+1,by omega,rfl,by rw [hall]; rfl,hok1,a',cap',_,rfl,O7,RT6.app (by rw [hwd]; exact IN.ext x6) A7 OT6⟩ meas⟩
        | true=>
          rw [hwr,Bool.true_and] at hall
          simp only [he,he8,heT,hwr,zi,Bool.not_false,Bool.not_true,za,Value.cells,Value.oneCell',Nat.reduceAdd,Nat.reduceSub,Nat.reduceMul,Nat.reduceLeDiff,Int.reduceEq,Nat.reduceEqDiff,zl]
          refine zb.mono (sign83 X h5 hwt) ?_
          rintro v h6 ⟨rfl,x6'⟩
          have hrg:decide (w.extract (w.size - 1) w.size=zbU X)=rgtB w:=by unfold rgtB; rw [hX]
          simp only [he,heT,hrg,zi,za,Value.cells,Value.oneCell',Nat.reduceAdd,Nat.reduceSub,Nat.reduceMul,Nat.reduceLeDiff,Int.reduceEq,Nat.reduceEqDiff,zl]
          have x6:Ext h6 (h6.push (.cells #[.slice aN (rowN w).length cN] 40)):=(Ext.refl h6).push _
          have OT6:=(OT.ext ((x4.trans x5).trans x6')).ext x6
          have RT6:=(RT.ext ((x4.trans x5).trans x6')).ext x6
          refine appF73 (m0:=h2.size) (m:=1) (U:=[(aN,(rowN w).length,cN)]) rfl rfl OT6 ((y5.trans x6').trans x6).size (Row.block (c:=hdsF [(aN,(rowN w).length,cN)]) zy) rfl (by omega) fun a' cap' h7 O7 A7=>?_
          simp only [he,za,Value.cells,Value.oneCell',Nat.reduceAdd,Nat.reduceSub,Nat.reduceMul,Nat.reduceLeDiff,Int.reduceEq,Nat.reduceEqDiff,zl]
          exact⟨by rw [ze]; omega,zx (by kernel_rfl) ⟨A7.extV OT6 ((y5.trans x6').trans x6) (Nat.le_refl _),i+1,by omega,rfl,by rw [hall]; rfl,hok1,a',cap',_,rfl,O7,RT6.app (by rw [hwd]; exact (IN.ext x6').ext x6) A7 OT6⟩ meas⟩
  obtain rfl:i=L.length:=by omega
  rw [List.take_of_length_le (Nat.le_refl _)] at he8
  have hfrm:zc8 (lnsB s):=by rw [hL]; exact hok
  have he7:=heT
  have lenz:=RT.len
  have b0:=zdL OT.row (j:=0) (by omega)
  have bz:=zdL OT.row (j:=L.length - 1) (by omega)
  obtain⟨t0,ht0⟩:∃ t0,t0=T.getD 0 (none,0,0):=⟨_,rfl⟩
  have I0:=(RT.row 0 (by omega)).ints
  have l0:=zcw (hok 0 (by omega))
  rw [← ht0] at b0 I0
  have l0m:zaf L.length 0=2:=by unfold zaf; rw [if_pos rfl]
  rw [l0m] at l0
  have c00:=I0.cell (j:=0) (by rw [zq]; omega)
  have c01:=I0.cell (j:=1) (by rw [zq]; omega)
  have s0:=I0.isSome (by rw [zq]; omega)
  have n0:=I0.len
  rw [zq,l0] at n0
  rw [zaJ] at c00 c01
  have sT:aT.isSome=true:=OT.row.isSome (by rw [zdZ]; omega)
  simp only [he,heT,show ¬ ((L.length:Int)<(L.length:Int)) by omega,decide_false,za,Value.cells,Value.oneCell',Nat.reduceAdd,Nat.reduceSub,Nat.reduceMul,Nat.reduceLeDiff,Int.reduceEq,Nat.reduceEqDiff,zl]
  refine zd4 (by kernel_rfl) zbr (.quiet 0 (.quiet 1 (.quiet 2 (.quiet 3 (.quiet 4 (.quiet 5 (.quiet 6 (.quiet 7 (.quiet 8 (.quiet 9 (.quiet 10 (.keep 11 (.one 12 (.fin)))))))))))))) (by kernel_rfl) rfl (by kernel_rfl) ?_
  simp only [heT,b0,c00,c01,za,Value.cells,Value.oneCell',Nat.reduceAdd,Nat.reduceSub,Nat.reduceMul,Nat.reduceLeDiff,Int.reduceEq,Nat.reduceEqDiff,zu,zY,zl]
  refine⟨⟨by omega,by omega⟩,sT,⟨by omega,by omega⟩,s0,⟨by omega,by omega⟩,sT,⟨by omega,by omega⟩,s0,?_⟩
  have ka:zbE (lnsB s)=(rowN (L.getD 0 ⟨#[]⟩)).getD 0 0:=by unfold zbE; rw [hL]
  have kz:zdd (lnsB s)=(rowN (L.getD 0 ⟨#[]⟩)).getD 1 0:=by unfold zdd; rw [hL]
  rw [← ka,← kz]
  obtain⟨k,hk⟩:∃ k,k=zbE (lnsB s):=⟨_,rfl⟩
  obtain⟨z,hz⟩:∃ z,z=zdd (lnsB s):=⟨_,rfl⟩
  rw [← hk,← hz]
  simp only [splice,List.take,List.drop,List.nil_append,List.cons_append,List.append_nil,List.length_cons,List.length_nil,Nat.zero_add,Nat.reduceAdd,Nat.reduceLeDiff,if_true,za,Value.cells,Value.oneCell',Nat.reduceAdd,Nat.reduceSub,Nat.reduceMul,Nat.reduceLeDiff,Int.reduceEq,Nat.reduceEqDiff,zu,zY,zl]
  refine ze0 fun h4 x4=>?_
  simp only [za,Value.cells,Value.oneCell',Nat.reduceAdd,Nat.reduceSub,Nat.reduceMul,Nat.reduceLeDiff,Int.reduceEq,Nat.reduceEqDiff,zu,zY,zl]
  refine⟨(Ext.refl h4).push _,?_⟩
  refine zbf fun h5 x5=>?_
  have q5:=x5.get (zy (h:=h4))
  simp only [q5,za,Value.cells,Value.oneCell',Nat.reduceAdd,Nat.reduceSub,Nat.reduceMul,Nat.reduceLeDiff,Int.reduceEq,Nat.reduceEqDiff,zu,zY,zl]
  refine zF q5 (by simp) fun h6 g6 u6=>?_
  simp only [splice,List.take,List.drop,List.nil_append,List.cons_append,List.append_nil,List.length_cons,List.length_nil,Nat.zero_add,Nat.reduceAdd] at g6
  refine zcV fun h7 x7=>?_
  have g7:=x7.get g6
  have x37:Ext h3 h7:=(u6.ext (x4.trans x5.of_push) (x4.size)).trans x7
  obtain⟨B,hB⟩:∃ B,B=h4.size:=⟨_,rfl⟩
  have hB3:h3.size≤B:=by rw [hB]; exact x4.size
  rw [← hB] at g7 ⊢
  have OT7:=OT.ext x37
  have RT7:=RT.ext x37
  have hB7:=zP g7
  simp only [heT,za,Value.cells,Value.oneCell',Nat.reduceAdd,Nat.reduceSub,Nat.reduceMul,Nat.reduceLeDiff,Int.reduceEq,Nat.reduceEqDiff,zl]
  have hcT:=OT.cap
  have ic:¬ (cT:Int)=1:=by omega
  have e2:((L.length:Int) - 1 - 1).toNat=L.length - 2:=by omega
  simp only [ic,if_false,e2]
  refine⟨by rw [ze]; omega,by omega,by omega,by omega,by omega,?_⟩
  have E7:OwnV (B+1) h7 26 4 none 0 0 (ensV ((esOf L).take 0)):=OwnV.nil _ _ _ _
  refine zK [19,105,106,107,108,109,110,111,112,113,114,115,116,117,118,119,120,121,122,123,124,125,126,127] (fun e h'=>Ext h3 h'∧∃ j:Nat,j≤L.length - 2∧e 105=.int .i64 j∧∃ aE cE,h'[B]?=some (.cells #[.int .i64 k,.int .i64 z,.slice aE j cE] 24)∧OwnV (B+1) h' 26 4 aE j cE (ensV ((esOf L).take j))) (fun e _=>match e 105 with | .int _ q=>L.length - 2 - q.toNat | _=>0) ⟨x37,0,by omega,rfl,none,0,g7,E7⟩ ?_
  rintro e2 h8 ⟨x8,j,hj,he2,aE,cE,g8,OE⟩
  have OT8:=OT.ext x8
  have RT8:=RT.ext x8
  by_cases hjn:j<L.length - 2
  · have hlt:(j:Int)<((L.length - 2:Nat):Int):=by omega
    have meas:L.length - 2 - ((j:Int)+1).toNat<L.length - 2 - (j:Int).toNat:=by omega
    have bt:=zdL OT8.row (j:=1+j) (by rw [lenz]; omega)
    obtain⟨t,ht⟩:∃ t,t=T.getD (1+j) (none,0,0):=⟨_,rfl⟩
    have It:=(RT8.row (1+j) (by omega)).ints
    have lt:=zcw (hok (1+j) (by omega))
    have ltm:zaf L.length (1+j)=4:=by unfold zaf; rw [if_neg (by omega),if_neg (by omega)]
    rw [← ht] at bt It
    rw [ltm] at lt
    obtain⟨r,hr⟩:∃ r,r=rowN (L.getD (1+j) ⟨#[]⟩):=⟨_,rfl⟩
    rw [← hr] at It lt
    have n0:=It.len
    rw [zq,lt] at n0
    have r0:=It.cell (j:=0) (by rw [zq]; omega)
    have r1:=It.cell (j:=1) (by rw [zq]; omega)
    have r2:=It.cell (j:=2) (by rw [zq]; omega)
    have r3:=It.cell (j:=3) (by rw [zq]; omega)
    have sr:=It.isSome (by rw [zq]; omega)
    rw [zaJ] at r0 r1 r2 r3
    have sT1:(eltP aT 1).isSome=true:=by
      cases aT with
      | none=>cases sT
      | some p=>rfl
    simp only [he2,hlt,znO,bt,decide_true,Int.toNat_natCast,za,Value.cells,Value.oneCell',Nat.reduceAdd,Nat.reduceSub,Nat.reduceMul,Nat.reduceLeDiff,Int.reduceEq,Nat.reduceEqDiff,zl]
    refine⟨by omega,sT1,?_⟩
    have z2:((2:Int)).toNat=2:=rfl
    have z3:((3:Int)).toNat=3:=rfl
    refine zd4 (by kernel_rfl) zbr (.quiet 0 (.quiet 1 (.quiet 2 (.quiet 3 (.quiet 4 (.quiet 5 (.quiet 6 (.quiet 7 (.quiet 8 (.quiet 9 (.quiet 10 (.quiet 11 (.quiet 12 (.quiet 13 (.quiet 14 (.keep 15 (.one 16 (.quiet 17 (.one 18 (.fin)))))))))))))))))))) (by kernel_rfl) rfl (by kernel_rfl) ?_
    simp only [g8,r0,r1,r2,r3,z2,z3,za,Value.cells,Value.oneCell',Nat.reduceAdd,Nat.reduceSub,Nat.reduceMul,Nat.reduceLeDiff,Int.reduceEq,Nat.reduceEqDiff,zu,zY,zl]
    refine⟨⟨by omega,by omega⟩,sr,⟨by omega,by omega⟩,sr,⟨by omega,by omega⟩,sr,⟨by omega,by omega⟩,sr,?_⟩
    simp only [splice,List.take,List.drop,List.nil_append,List.cons_append,List.append_nil,List.length_cons,List.length_nil,Nat.zero_add,Nat.reduceAdd,Nat.reduceLeDiff,if_true,za,Value.cells,Value.oneCell',Nat.reduceAdd,Nat.reduceSub,Nat.reduceMul,Nat.reduceLeDiff,Int.reduceEq,Nat.reduceEqDiff,zu,zY,zl]
    refine ze0 fun h9 x9=>?_
    simp only [splice,List.take,List.drop,List.nil_append,List.append_nil,List.length_cons,List.length_nil,za,Value.cells,Value.oneCell',Nat.reduceAdd,Nat.reduceSub,Nat.reduceMul,Nat.reduceLeDiff,Int.reduceEq,Nat.reduceEqDiff,zu,zY,zl]
    refine⟨by decide,(Ext.refl h9).push _,?_⟩
    refine zbf fun h10 x10=>?_
    have x810:Ext h8 h10:=x9.trans x10.of_push
    have OE10:=OE.ext x810
    have g10:=x810.get g8
    have q10:=x10.get zy
    simp only [za,Value.cells,Value.oneCell',Nat.reduceAdd,Nat.reduceSub,Nat.reduceMul,Nat.reduceLeDiff,Int.reduceEq,Nat.reduceEqDiff,zu,zY,zl]
    refine appF22 (m0:=B+1) (len:=j) (m:=1) (xs:=(esOf L).take j) (ys:=[enOf r]) rfl rfl OE10 (by have:=zP g10; omega) (Row.block (c:=ensV [enOf r]) q10) rfl (by omega) fun a' cap' h11 O11 A11=>?_
    try simp only [za,Value.cells,Value.oneCell',Nat.reduceAdd,Nat.reduceSub,Nat.reduceMul,Nat.reduceLeDiff,Int.reduceEq,Nat.reduceEqDiff,zu,zY,zl]
    refine zbf fun h12 x12=>?_
    have g12:=x12.get (A11.updV OE10 g10 (by omega))
    simp only [g12,za,Value.cells,Value.oneCell',Nat.reduceAdd,Nat.reduceSub,Nat.reduceMul,Nat.reduceLeDiff,Int.reduceEq,Nat.reduceEqDiff,zu,zY,zl]
    refine zF g12 (by simp) fun h13 g13 u13=>?_
    simp only [splice,List.take,List.drop,List.nil_append,List.cons_append,List.append_nil,List.length_cons,List.length_nil] at g13
    refine zcV fun h14 x14=>?_
    simp only [he2,za,Value.cells,Value.oneCell',Nat.reduceAdd,Nat.reduceSub,Nat.reduceMul,Nat.reduceLeDiff,Int.reduceEq,Nat.reduceEqDiff,zl]
    have O14:=((O11.ext x12).upd u13 (by omega)).ext x14
    have et:=ziv (L:=L) hjn
    rw [Nat.add_comm j 1,← hr,Nat.add_comm 1 j] at et
    have xF:Ext h3 h14:=(u13.ext ((A11.extV OE10 (x8.trans x810) (by omega)).trans x12) hB3).trans x14
    exact⟨by rw [ze]; omega,zx (by kernel_rfl) ⟨xF,j+1,by omega,rfl,a',cap',x14.get g13,by rw [et]; exact O14⟩ meas⟩
  obtain rfl:j=L.length - 2:=by omega
  rw [List.take_of_length_le (by rw [zcx]; exact Nat.le_refl _)] at OE
  have bz:=zdL OT8.row (j:=L.length - 1) (by omega)
  have ez:((L.length:Int) - 1).toNat=L.length - 1:=by omega
  obtain⟨t,ht⟩:∃ t,t=T.getD (L.length - 1) (none,0,0):=⟨_,rfl⟩
  have Oz:=RT8.row (L.length - 1) (by omega)
  have lz:=zcw (hok (L.length - 1) (by omega))
  have lzm:zaf L.length (L.length - 1)=2:=by unfold zaf; rw [if_neg (by omega),if_pos (by omega)]
  rw [← ht] at bz Oz
  rw [lzm] at lz
  obtain⟨r,hr⟩:∃ r,r=rowN (L.getD (L.length - 1) ⟨#[]⟩):=⟨_,rfl⟩
  rw [← hr] at Oz lz
  have n0:=Oz.ints.len
  rw [zq,lz] at n0
  obtain⟨es,hes⟩:∃ es,es=esOf L:=⟨_,rfl⟩
  have esl:L.length - 2=es.length:=by rw [hes,zcx]
  rw [← hes] at OE
  have hEs:esOf (lnsB s)=es:=by rw [hL,hes]
  have hEq:zeL (lnsB s)↔r.getD 0 0=es.length∧((r.getD 1 0:Nat):Int)=totL es:=by
    unfold zeL zdM
    rw [hEs,hL,← hr]
  rw [← hL] at he8
  simp only [he2,g8,bz,ez,show ¬ ((L.length - 2:Nat):Int)<((L.length - 2:Nat):Int) by omega,decide_false,za,Value.cells,Value.oneCell',Nat.reduceAdd,Nat.reduceSub,Nat.reduceMul,Nat.reduceLeDiff,Int.reduceEq,Nat.reduceEqDiff,zl]
  refine⟨by rw [ze]; omega,⟨by omega,by omega⟩,sT,?_⟩
  refine zb.mono (zl0 k z aE (L.length - 2) cE es h8 OE.row esl (by omega)) ?_
  rintro v h9 ⟨rfl,x9⟩
  have y9:=(x3.trans x8).trans x9
  have g9:=y9.get g2
  have gB9:=x9.get g8
  cases hwr:(lnsB s).all rgtB with
  | false=>
    have e14:=zma c1 h1f hfrm hwr
    simp only [he8,hwr,g9,Bool.not_false,za,Value.cells,Value.oneCell',Nat.reduceAdd,Nat.reduceSub,Nat.reduceMul,Nat.reduceLeDiff,Int.reduceEq,Nat.reduceEqDiff,zl]
    refine zF g9 (by simp) fun h10 g10 u10=>?_
    simp only [splice,List.take,List.drop,List.nil_append,List.append_nil,List.length_cons,List.length_nil] at g10
    simp only [g10,za,Value.cells,Value.oneCell',Nat.reduceAdd,Nat.reduceSub,Nat.reduceMul,Nat.reduceLeDiff,Int.reduceEq,Nat.reduceEqDiff,zl]
    exact⟨.inr ⟨by omega,by rw [e14]⟩,u10.ext (x0.trans (x2.trans y9)) (Nat.le_refl _)⟩
  | true=>
  have Iz:=(Oz.ext x9).ints
  have r0:=Iz.cell (j:=0) (by rw [zq]; omega)
  have r1:=Iz.cell (j:=1) (by rw [zq]; omega)
  have sr:=Iz.isSome (by rw [zq]; omega)
  rw [zaJ] at r0 r1
  simp only [he8,hwr,Bool.not_true,za,Value.cells,Value.oneCell',Nat.reduceAdd,Nat.reduceSub,Nat.reduceMul,Nat.reduceLeDiff,Int.reduceEq,Nat.reduceEqDiff,zl]
  refine zbH (by kernel_rfl) zbr [(0,0),(1,0),(2,0),(3,0),(4,0),(5,0),(6,0),(7,0),(8,0),(9,0),(10,0),(11,0),(12,0),(13,0),(14,0),(15,0),(16,0)] (by kernel_rfl) rfl (by kernel_rfl) ?_
  by_cases q1:r.getD 0 0=es.length
  case neg=>
    have q1d:decide (((r.getD 0 0:Nat):Int)=((L.length - 2:Nat):Int))=false:=decide_eq_false (by omega)
    have e15:=zgb c1 h1f hfrm hwr (fun hh=>q1 (hEq.1 hh).1)
    simp only [r0,gB9,q1d,zi,zaZ,Bool.not_false,za,Value.cells,Value.oneCell',Nat.reduceAdd,Nat.reduceSub,Nat.reduceMul,Nat.reduceLeDiff,Int.reduceEq,Nat.reduceEqDiff,zu,zl]
    refine⟨⟨by omega,by omega⟩,sr,?_⟩
    refine zbl fun h10 x10=>?_
    have g10:=x10.get g9
    simp only [g10,za,Value.cells,Value.oneCell',Nat.reduceAdd,Nat.reduceSub,Nat.reduceMul,Nat.reduceLeDiff,Int.reduceEq,Nat.reduceEqDiff,zl]
    refine zF g10 (by simp) fun h11 g11 u11=>?_
    simp only [splice,List.take,List.drop,List.nil_append,List.append_nil,List.length_cons,List.length_nil] at g11
    simp only [g11,za,Value.cells,Value.oneCell',Nat.reduceAdd,Nat.reduceSub,Nat.reduceMul,Nat.reduceLeDiff,Int.reduceEq,Nat.reduceEqDiff,zl]
    exact⟨.inr ⟨by omega,by rw [e15]⟩,u11.ext (x0.trans (x2.trans (y9.trans x10))) (Nat.le_refl _)⟩
  have q1d:decide (((r.getD 0 0:Nat):Int)=((L.length - 2:Nat):Int))=true:=decide_eq_true (by omega)
  simp only [r0,r1,gB9,q1d,zi,zaZ,Bool.not_true,za,Value.cells,Value.oneCell',Nat.reduceAdd,Nat.reduceSub,Nat.reduceMul,Nat.reduceLeDiff,Int.reduceEq,Nat.reduceEqDiff,zu,zl]
  refine⟨⟨by omega,by omega⟩,sr,⟨by omega,by omega⟩,sr,?_⟩
  have hab:∀ e∈es,0≤e.a∧e.a≤1000000:=by
    rw [← hEs]
    exact ziw hfrm
  refine zel _ (fun h' x'=>zb.mono (zlZ aE (L.length - 2) cE es h' ((OE.row.ext x9).ext x') esl (by omega) hab) fun v h'' q=>⟨q.1,q.2⟩) ?_
  by_cases q2:((r.getD 1 0:Nat):Int)=totL es
  case neg=>
    have q2d:decide (((r.getD 1 0:Nat):Int)=totL es)=false:=decide_eq_false q2
    have e15:=zgb c1 h1f hfrm hwr (fun hh=>q2 (hEq.1 hh).2)
    simp only [q2d,zi,zaZ,Bool.not_false,za,Value.cells,Value.oneCell',Nat.reduceAdd,Nat.reduceSub,Nat.reduceMul,Nat.reduceLeDiff,Int.reduceEq,Nat.reduceEqDiff,zu,zl]
    refine zbl fun h10 x10=>?_
    have g10:=x10.get g9
    simp only [g10,za,Value.cells,Value.oneCell',Nat.reduceAdd,Nat.reduceSub,Nat.reduceMul,Nat.reduceLeDiff,Int.reduceEq,Nat.reduceEqDiff,zl]
    refine zF g10 (by simp) fun h11 g11 u11=>?_
    simp only [splice,List.take,List.drop,List.nil_append,List.append_nil,List.length_cons,List.length_nil] at g11
    simp only [g11,za,Value.cells,Value.oneCell',Nat.reduceAdd,Nat.reduceSub,Nat.reduceMul,Nat.reduceLeDiff,Int.reduceEq,Nat.reduceEqDiff,zl]
    exact⟨.inr ⟨by omega,by rw [e15]⟩,u11.ext (x0.trans (x2.trans (y9.trans x10))) (Nat.le_refl _)⟩
  have q2d:decide (((r.getD 1 0:Nat):Int)=totL es)=true:=decide_eq_true q2
  have ec:=zl6 c1 h1f hfrm hwr (hEq.2 ⟨q1,q2⟩)
  rw [hEs,← hk,← hz] at ec
  simp only [q2d,zi,zaZ,Bool.not_true,za,Value.cells,Value.oneCell',Nat.reduceAdd,Nat.reduceSub,Nat.reduceMul,Nat.reduceLeDiff,Int.reduceEq,Nat.reduceEqDiff,zu,zl]
  refine zbl fun h10 x10=>?_
  have g10:=x10.get g9
  have gB10:=x10.get gB9
  by_cases hc:chk k z es=0
  case neg=>
    have hcd:decide (chk k z es=0)=false:=decide_eq_false hc
    simp only [hcd,g10,Bool.not_false,za,Value.cells,Value.oneCell',Nat.reduceAdd,Nat.reduceSub,Nat.reduceMul,Nat.reduceLeDiff,Int.reduceEq,Nat.reduceEqDiff,zl]
    refine zF g10 (by simp) fun h11 g11 u11=>?_
    simp only [splice,List.take,List.drop,List.nil_append,List.append_nil,List.length_cons,List.length_nil] at g11
    simp only [g11,za,Value.cells,Value.oneCell',Nat.reduceAdd,Nat.reduceSub,Nat.reduceMul,Nat.reduceLeDiff,Int.reduceEq,Nat.reduceEqDiff,zl]
    exact⟨.inr ⟨by omega,by rw [ec]⟩,u11.ext (x0.trans (x2.trans (y9.trans x10))) (Nat.le_refl _)⟩
  have hcd:decide (chk k z es=0)=true:=decide_eq_true hc
  simp only [hcd,g10,gB10,Bool.not_true,za,Value.cells,Value.oneCell',Nat.reduceAdd,Nat.reduceSub,Nat.reduceMul,Nat.reduceLeDiff,Int.reduceEq,Nat.reduceEqDiff,zl]
  refine zF g10 (by simp) fun h11 g11 u11=>?_
  simp only [splice,List.take,List.drop,List.nil_append,List.append_nil,List.length_cons,List.length_nil] at g11
  simp only [g11,za,Value.cells,Value.oneCell',Nat.reduceAdd,Nat.reduceSub,Nat.reduceMul,Nat.reduceLeDiff,Int.reduceEq,Nat.reduceEqDiff,zl]
  have xU:Ext h h11:=u11.ext (x0.trans (x2.trans (y9.trans x10))) (Nat.le_refl _)
  refine⟨.inl ⟨by omega,aE,L.length - 2,cE,by rw [← hk,← hz],by rw [hEs]; exact esl,?_⟩,xU⟩
  rw [hEs]
  exact (((OE.ext x9).ext x10).upd u11 (by have:=x0.size; have:=x2.size; have:=x3.size; omega)).row
end Go.Proofs.YtepaekbjoombpaaGreatDoor
end
section
namespace Go.Proofs.YtepaekbjoombpaaGreatDoor
open Go Go.Proofs Go.Eng Go.Run Tab
set_option maxRecDepth 100000
set_option linter.unusedSimpArgs false
set_option linter.unusedVariables false
set_option linter.defProp false
set_option maxHeartbeats 4000000
set_option linter.defProp false
def zk:=(And.intro (And.intro (And.intro (And.intro (And.intro @agg2 @zdV) (And.intro @zg1 @agg3)) (And.intro (And.intro @agg9 @by2) (And.intro @by26 @by9))) (And.intro (And.intro (And.intro @zdw @zd6) (And.intro @zcO @zmt)) (And.intro (And.intro @zmd @zmf) (And.intro @zmn (And.intro @inf2 @zdF))))) (And.intro (And.intro (And.intro (And.intro @zg0 @zbS) (And.intro @inf3 @inf9)) (And.intro (And.intro @okf24 @okf26) (And.intro @sz2 (And.intro @sz22 @sz24)))) (And.intro (And.intro (And.intro @sz26 @sz3) (And.intro @sz9 @zjP)) (And.intro (And.intro @zea @Tryz.underlying9) (And.intro @Tryz.underlying22 (And.intro @Tryz.underlying37 @Tryz.underlying65))))))
theorem last_lst {s:ByteArray}{c:UInt8}(h:(bl s).getLast?=some c):lstB s c=true:=by
  have hne:bl s≠[]:=fun e=>by rw [e] at h; cases h
  have hl:=List.length_pos_iff.2 hne
  rw [zz] at hl
  unfold lstB
  refine decide_eq_true ⟨hl,?_⟩
  unfold at_
  rw [zcc,← zz,List.getD_eq_getElem?_getD,← List.getLast?_eq_getElem?,h]
  rfl
theorem lst_snoc {s:ByteArray}{c:UInt8}(h:lstB s c=true):bl s=bl (s.extract 0 (s.size - 1))++[c]:=by
  have h0:0<s.size:=by
    unfold lstB at h
    exact (of_decide_eq_true h).1
  have h1:=congrArg bl ((zmo s c).1 h)
  rw [zdi] at h1
  have h2:(bl s).drop (s.size - 1)=[c]:=h1
  rw [zmh,← h2,List.take_append_drop]
theorem zis {s:ByteArray}{ws:List ByteArray}(hws:ws.map bl=FL.prt 10 (bl s))(h:lstB s 10=true):ws=lnsB s++[⟨#[]⟩]:=by
  rw [← ws_bs hws,lst_snoc h,zk3,List.map_append]
  rfl
theorem lns_not {s:ByteArray}{ws:List ByteArray}(hws:ws.map bl=FL.prt 10 (bl s))(h:lstB s 10=false)(h3:3≤ws.length):¬ ws.getD (ws.length - 1) ⟨#[]⟩=⟨#[]⟩:=by
  intro he
  have h1:(FL.prt 10 (bl s)).getLast?=some []:=by
    rw [← hws,List.getLast?_map,List.getLast?_eq_getElem?]
    rw [List.getD_eq_getElem?_getD,List.getElem?_eq_getElem (by omega)] at he
    rw [List.getElem?_eq_getElem (by omega)]
    have he:ws[ws.length - 1]=⟨#[]⟩:=he
    rw [he]; rfl
  rcases zjH 10 (bl s) h1 with h2 | h2
  · have:=congrArg List.length hws
    rw [h2,List.length_map] at this
    have h4:(FL.prt (10:UInt8) []).length=1:=rfl
    omega
  · rw [last_lst h2] at h; cases h
theorem zos {w:ByteArray}(h:zV w=true):zeX w=if rgtB w then 0 else 14:=by
  obtain⟨h3,ht,-⟩:=(zam w).1 h
  have hx:=zfJ ht
  rw [zbI _ _ _ (by omega) (by omega)] at hx
  unfold zeX rgtB
  rw [if_neg (by omega),if_pos h]
  by_cases hc:w.extract (w.size - 1) w.size=zbU (w.extract 0 (w.size - 2))
  · rw [if_pos hc,decide_eq_true hc]; rfl
  · rw [if_neg hc,decide_eq_false hc]; rfl
theorem ownF_ne {h:Eng.Heap}{m:Nat}{el t:TypeId}{a:Option Addr}{n c B:Nat}{xs:List Int}{cs:Array Value}{fr:Nat × Nat}(O:OwnI m h el a n c xs)(hB:h[B]?=some (.cells cs t fr))(hne:el≠t):∀ p,a=some p→p.block≠B:=by
  intro p hp e
  rcases O.ok with⟨h1,_⟩ | ⟨g,cur,h1,h2,h3,_⟩
  · rw [h1] at hp; cases hp
  · rw [h1] at hp
    cases hp
    have e:g=B:=e
    rw [e,hB] at h3
    cases h3
    exact hne rfl
theorem load41 (s:ByteArray)(h:Eng.Heap)(hs:s.size≤700) :
    zb Tryz.prog 41 #[.string s] h (fun v h'=>LdP s v h'∧Ext h h'):=by
  (refine zg Tryz.func41 rfl bod41 ?_; simp only [Tryz.ntmps41,Tryz.results41,za,zm,splice,Value.cells,Value.oneCell',Nat.reduceAdd,Nat.reduceSub,Nat.reduceMul,Nat.reduceLeDiff,Int.reduceEq,Nat.reduceEqDiff,zk])
  obtain⟨h0,hh0⟩:∃ h0,h0=h.push (.cells #[.int .i64 0,.int .i64 0,.slice none 0 0] 24):=⟨_,rfl⟩
  have x0:Ext h h0:=by rw [hh0]; exact (Ext.refl h).push _
  have g0:h0[h.size]?=some (.cells #[.int .i64 0,.int .i64 0,.slice none 0 0] 24):=by rw [hh0]; exact zy
  rw [← hh0]
  by_cases c1:400<s.size
  · have c1i:(400:Int)<(s.size:Int):=by omega
    simp only [c1i,decide_true,za,Value.cells,Value.oneCell',Nat.reduceAdd,Nat.reduceSub,Nat.reduceMul,Nat.reduceLeDiff,Int.reduceEq,Nat.reduceEqDiff,zk]
    have e7:=zkO c1
    exact⟨.inr ⟨by omega,by rw [e7]⟩,x0⟩
  have c1i:¬ (400:Int)<(s.size:Int):=by omega
  simp only [c1i,decide_false,za,Value.cells,Value.oneCell',Nat.reduceAdd,Nat.reduceSub,Nat.reduceMul,Nat.reduceLeDiff,Int.reduceEq,Nat.reduceEqDiff,zk]
  refine zb.mono (zl9 s 10 h0 (by omega)) ?_
  rintro v h1 ⟨⟨aS,ws,cS,rfl,RS,hws⟩,x1⟩
  have g1:=x1.get g0
  have hwl:ws.length=(bl s).count 10+1:=by rw [← zcv,← hws,List.length_map]
  have hwc:=List.count_le_length (a:=(10:UInt8)) (l:=bl s)
  rw [zz] at hwc
  by_cases c2:ws.length<3
  · have c2i:((ws.length:Nat):Int)<3:=by omega
    have e8:=zdJ c1 (fun hh=>by
      have:=congrArg List.length (zis hws hh.1)
      rw [List.length_append,List.length_singleton] at this
      omega)
    simp only [g1,c2i,zi,decide_true,za,Value.cells,Value.oneCell',Nat.reduceAdd,Nat.reduceSub,Nat.reduceMul,Nat.reduceLeDiff,Int.reduceEq,Nat.reduceEqDiff,zk]
    refine zF g1 (by simp) fun hE gE uE=>?_
    simp only [splice,List.take,List.drop,List.nil_append,List.append_nil,List.length_cons,List.length_nil] at gE
    simp only [gE,za,Value.cells,Value.oneCell',Nat.reduceAdd,Nat.reduceSub,Nat.reduceMul,Nat.reduceLeDiff,Int.reduceEq,Nat.reduceEqDiff,zk]
    exact⟨.inr ⟨by omega,by rw [e8]⟩,uE.ext (x0.trans x1) (Nat.le_refl _)⟩
  have c2i:¬ ((ws.length:Nat):Int)<3:=by omega
  have cz:=zb4 RS (j:=ws.length - 1) (by omega)
  have sS:=zdN RS (by omega)
  have ez:((ws.length:Int) - 1).toNat=ws.length - 1:=by omega
  cases hb:lstB s 10 with
  | false=>
    have hne:=lns_not hws hb (by omega)
    rw [List.getD_eq_getElem?_getD,List.getElem?_eq_getElem (by omega)] at hne
    have hne:¬ ws[ws.length - 1]=⟨#[]⟩:=hne
    have e8:=zdJ c1 (fun hh=>by have:=hh.1; rw [hb] at this; cases this)
    simp only [g1,cz,c2i,ez,hne,zi,decide_false,Bool.not_false,za,Value.cells,Value.oneCell',Nat.reduceAdd,Nat.reduceSub,Nat.reduceMul,Nat.reduceLeDiff,Int.reduceEq,Nat.reduceEqDiff,zk]
    refine⟨by rw [ze]; omega,⟨by omega,by omega⟩,sS,?_⟩
    refine zF g1 (by simp) fun hE gE uE=>?_
    simp only [splice,List.take,List.drop,List.nil_append,List.append_nil,List.length_cons,List.length_nil] at gE
    simp only [gE,za,Value.cells,Value.oneCell',Nat.reduceAdd,Nat.reduceSub,Nat.reduceMul,Nat.reduceLeDiff,Int.reduceEq,Nat.reduceEqDiff,zk]
    exact⟨.inr ⟨by omega,by rw [e8]⟩,uE.ext (x0.trans x1) (Nat.le_refl _)⟩
  | true=>
  obtain⟨L,hL⟩:∃ L,L=lnsB s:=⟨_,rfl⟩
  have hwe:=zis hws hb
  rw [← hL] at hwe
  have hwL:ws.length=L.length+1:=by rw [hwe,List.length_append]; rfl
  have hze:ws[ws.length - 1]=⟨#[]⟩:=by
    have h1:ws[ws.length - 1]?=some ⟨#[]⟩:=by rw [hwe,List.length_append,List.length_singleton,Nat.add_sub_cancel,List.getElem?_append_right (Nat.le_refl _),Nat.sub_self]; rfl
    rw [List.getElem?_eq_getElem (by omega)] at h1
    exact Option.some.inj h1
  have h1f:lstB s 10=true∧2≤(lnsB s).length:=⟨hb,by rw [← hL]; omega⟩
  have form:∀ {i:Nat},i<L.length→¬ rdOK (L.getD i ⟨#[]⟩) (zaf L.length i)→ldE s=8:=fun {i} hi hh=>zju c1 h1f fun hk=>hh (by rw [← hL] at hk; exact hk i hi)
  have ka:zbE L=(rowN (L.getD 0 ⟨#[]⟩)).getD 0 0:=rfl
  have kz:zdd L=(rowN (L.getD 0 ⟨#[]⟩)).getD 1 0:=rfl
  obtain⟨k,hk⟩:∃ k,k=zbE L:=⟨_,rfl⟩
  obtain⟨z,hz⟩:∃ z,z=zdd L:=⟨_,rfl⟩
  have eL:((ws.length:Int) - 1)=(L.length:Int):=by omega
  have eL2:((ws.length:Int) - 2)=((L.length - 1:Nat):Int):=by omega
  simp only [cz,c2i,ez,hze,zi,decide_true,decide_false,Bool.not_true,za,Value.cells,Value.oneCell',Nat.reduceAdd,Nat.reduceSub,Nat.reduceMul,Nat.reduceLeDiff,Int.reduceEq,Nat.reduceEqDiff,zk]
  refine⟨by rw [ze]; omega,⟨by omega,by omega⟩,sS,?_⟩
  have xB:Ext h1 (h1.push (.cells #[.int .i64 0,.int .i64 0,.slice none 0 0] 24)):=(Ext.refl h1).push _
  obtain⟨B,hB⟩:∃ B,B=h1.size:=⟨_,rfl⟩
  have gB:=zy (h:=h1) (o:=.cells #[.int .i64 0,.int .i64 0,.slice none 0 0] 24)
  rw [← hB] at gB ⊢
  refine zK [3,7,8,9,10,11,32,33,34,35,36,37,38,39,40,41,42,43,44,45,46,47,48,49,50,51,52,53,54,55,56,57,58,59,60,61,62,63,64,65,66,67,68,69,70,71,72,73,74,75,76,77,78,79,80,81,82,83,84,85,86,87,88,89,90] (fun e h'=>Ext h1 h'∧∃ i:Nat,i≤L.length∧e 8=.int .i64 i∧(∀ j,j<i→rdOK (L.getD j ⟨#[]⟩) (zaf L.length j))∧((i=0∧e 7=.slice none 0 0∧h'[B]?=some (.cells #[.int .i64 0,.int .i64 0,.slice none 0 0] 24))∨(0<i∧i<L.length∧e 7=.slice none 0 0∧∃ aE cE,h'[B]?=some (.cells #[.int .i64 k,.int .i64 z,.slice aE (i - 1) cE] 24)∧OwnV (B+1) h' 26 4 aE (i - 1) cE (ensV ((esOf L).take (i - 1))))∨(i=L.length∧(∃ aZ cZ,e 7=.slice aZ 2 cZ∧OwnI 0 h' 2 aZ 2 cZ (nzF (zdM L)))∧∃ aE cE,h'[B]?=some (.cells #[.int .i64 k,.int .i64 z,.slice aE (L.length - 2) cE] 24)∧OwnV (B+1) h' 26 4 aE (L.length - 2) cE (ensV (esOf L))))) (fun e _=>match e 8 with | .int _ q=>L.length - q.toNat | _=>0) ⟨xB,0,by omega,rfl,fun j hj=>by omega,.inl ⟨rfl,rfl,gB⟩⟩ ?_
  rintro e h3 ⟨x3,i,hi,he,hok,HC⟩
  have g3:=x3.get g1
  by_cases hin:i<L.length
  · have hlt:decide ((i:Int)<(L.length:Int))=true:=decide_eq_true (by omega)
    have meas:L.length - ((i:Int)+1).toNat<L.length - (i:Int).toNat:=by omega
    have ci:=zb4 (RS.ext x3) (j:=i) (by omega)
    obtain⟨w,hw⟩:∃ w,w=L[i]:=⟨_,rfl⟩
    have hwd:L.getD i ⟨#[]⟩=w:=by rw [hw,List.getD_eq_getElem?_getD,List.getElem?_eq_getElem hin]; rfl
    have hww:ws[i]=w:=by
      have h1:ws[i]?=some w:=by rw [hwe,List.getElem?_append_left hin,List.getElem?_eq_getElem hin,hw]
      rw [List.getElem?_eq_getElem (by omega)] at h1
      exact Option.some.inj h1
    have hbw:=zfX hws (j:=i) (by omega)
    rw [hww] at ci hbw
    have hwz:=zdb 10 (bl s) (List.getElem_mem (l:=FL.prt 10 (bl s)) (n:=i) (by rw [← hws,List.length_map]; omega))
    rw [← hbw,zz,zz] at hwz
    obtain⟨many,hmany⟩:∃ many,many=zaf L.length i:=⟨_,rfl⟩
    have hok1:rdOK w many→∀ j,j<i+1→rdOK (L.getD j ⟨#[]⟩) (zaf L.length j):=fun hr j hj=>by
      by_cases hji:j=i
      · rw [hji,hwd,← hmany]; exact hr
      · exact hok j (by omega)
    have hcase:i=0∨(i≠0∧i+1=L.length)∨(i≠0∧i+1≠L.length):=by omega
    rcases hcase with k0 | ⟨k1,k2⟩ | ⟨k1,k2⟩
    · have kd:decide ((i:Int)=0)=true:=decide_eq_true (by omega)
      have km:many=2:=by rw [hmany,zaf,if_pos k0]
      have kmi:(2:Int)=(many:Int):=by omega
      obtain⟨he7,b3⟩:e 7=.slice none 0 0∧h3[B]?=some (.cells #[.int .i64 0,.int .i64 0,.slice none 0 0] 24):=by
        rcases HC with⟨_,h1,h2⟩ | ⟨h1,_⟩ | ⟨h1,_⟩
        · exact⟨h1,h2⟩
        · omega
        · omega
      simp only [he,he7,eL,hlt,ci,kd,zi,Int.toNat_natCast,za,Value.cells,Value.oneCell',Nat.reduceAdd,Nat.reduceSub,Nat.reduceMul,Nat.reduceLeDiff,Int.reduceEq,Nat.reduceEqDiff,zk]
      refine⟨by rw [ze]; omega,⟨by omega,by omega⟩,sS,?_⟩
      have r95:=zjB w many h3 (by omega)
      rw [← kmi] at r95
      refine zb.mono r95 ?_
      rintro v h5 ⟨HN,x5⟩
      have y5:=x3.trans x5
      have g5:=x5.get g3
      rcases HN with⟨hn,aN,cN,rfl,IN⟩ | ⟨hn,rfl⟩
      case inr=>
        have e8:=form hin (by rw [hwd,← hmany]; exact hn)
        simp only [g5,Bool.not_false,za,Value.cells,Value.oneCell',Nat.reduceAdd,Nat.reduceSub,Nat.reduceMul,Nat.reduceLeDiff,Int.reduceEq,Nat.reduceEqDiff,zk]
        refine zF g5 (by simp) fun hE gE uE=>?_
        simp only [splice,List.take,List.drop,List.nil_append,List.append_nil,List.length_cons,List.length_nil] at gE
        simp only [gE,za,Value.cells,Value.oneCell',Nat.reduceAdd,Nat.reduceSub,Nat.reduceMul,Nat.reduceLeDiff,Int.reduceEq,Nat.reduceEqDiff,zk]
        exact⟨.inr ⟨by omega,by rw [e8]⟩,uE.ext (x0.trans (x1.trans y5)) (Nat.le_refl _)⟩
      have hrl:=zcw hn
      have hrow:rowN w=numsL (zcG w):=rfl
      rw [← hrow] at IN ⊢
      have r0:=IN.ints.cell (j:=0) (by rw [zq]; omega)
      have r1:=IN.ints.cell (j:=1) (by rw [zq]; omega)
      have sr:=IN.ints.isSome (by rw [zq]; omega)
      rw [zaJ] at r0 r1
      simp only [he,he7,kd,Bool.not_true,za,Value.cells,Value.oneCell',Nat.reduceAdd,Nat.reduceSub,Nat.reduceMul,Nat.reduceLeDiff,Int.reduceEq,Nat.reduceEqDiff,zk]
      have b5:=x5.get b3
      refine zd4 (by kernel_rfl) zbr (.quiet 0 (.quiet 1 (.quiet 2 (.pure 3 (.pure 4 (.quiet 6 (.fork2 5 7 true false (.one 7 (.quiet 8 (.one 9 (.fin)))) (.quiet 5 (.quiet 8 (.one 9 (.fin))))))))))) (by kernel_rfl) rfl (by kernel_rfl) ?_
      have hk0:(rowN w).getD 0 0=k:=by rw [hk,ka,← hwd,k0]
      have hz0:(rowN w).getD 1 0=z:=by rw [hz,kz,← hwd,k0]
      have hn2:(rowN w).length=2:=by rw [hrl,km]
      rw [hk0] at r0
      rw [hz0] at r1
      have u0:i+1 - 1=0:=by omega
      simp only [r0,r1,za,Value.cells,Value.oneCell',Nat.reduceAdd,Nat.reduceSub,Nat.reduceMul,Nat.reduceLeDiff,Int.reduceEq,Nat.reduceEqDiff,zu,zY,zk]
      refine⟨⟨by omega,by omega⟩,sr,⟨by omega,by omega⟩,sr,?_⟩
      refine zla fun h6 x6=>⟨?_,?_⟩
      · have r16:=(IN.ext x6).ints.cell (j:=1) (by rw [zq]; omega)
        rw [zaJ,hz0] at r16
        simp only [r16,za,Value.cells,Value.oneCell',Nat.reduceAdd,Nat.reduceSub,Nat.reduceMul,Nat.reduceLeDiff,Int.reduceEq,Nat.reduceEqDiff,zu,zY,zk]
        refine⟨Ext.refl _,?_⟩
        refine zbf fun h7 x7=>?_
        have b7:=x7.get (x6.get b5)
        simp only [b7,za,Value.cells,Value.oneCell',Nat.reduceAdd,Nat.reduceSub,Nat.reduceMul,Nat.reduceLeDiff,Int.reduceEq,Nat.reduceEqDiff,zu,zY,zk]
        refine zF b7 (by simp) fun h8 b8 u8=>?_
        simp only [splice,List.take,List.drop,List.nil_append,List.cons_append,List.append_nil,List.length_cons,List.length_nil,Nat.zero_add,Nat.reduceAdd] at b8
        try simp only [za,Value.cells,Value.oneCell',Nat.reduceAdd,Nat.reduceSub,Nat.reduceMul,Nat.reduceLeDiff,Int.reduceEq,Nat.reduceEqDiff,zu,zY,zk]
        refine zbf fun h9 x9=>?_
        have b9:=x9.get b8
        simp only [b9,za,Value.cells,Value.oneCell',Nat.reduceAdd,Nat.reduceSub,Nat.reduceMul,Nat.reduceLeDiff,Int.reduceEq,Nat.reduceEqDiff,zu,zY,zk]
        refine zF b9 (by simp) fun h10 b10 u10=>?_
        simp only [splice,List.take,List.drop,List.nil_append,List.cons_append,List.append_nil,List.length_cons,List.length_nil,Nat.zero_add,Nat.reduceAdd] at b10
        refine zcV fun h11 x11=>?_
        have xF:Ext h1 h11:=(u10.ext ((u8.ext (y5.trans (x6.trans x7)) (Nat.le_of_eq hB.symm)).trans x9) (Nat.le_of_eq hB.symm)).trans x11
        simp only [he,za,Value.cells,Value.oneCell',Nat.reduceAdd,Nat.reduceSub,Nat.reduceMul,Nat.reduceLeDiff,Int.reduceEq,Nat.reduceEqDiff,zk]
        exact⟨by rw [ze]; omega,zx (by kernel_rfl) ⟨xF,i+1,by omega,rfl,hok1 hn,.inr (.inl ⟨by omega,by omega,rfl,none,0,by rw [u0]; exact x11.get b10,by rw [u0]; exact OwnV.nil _ _ _ _⟩)⟩ meas⟩
      · have b6:=x6.get b5
        simp only [b6,za,Value.cells,Value.oneCell',Nat.reduceAdd,Nat.reduceSub,Nat.reduceMul,Nat.reduceLeDiff,Int.reduceEq,Nat.reduceEqDiff,zu,zY,zk]
        refine zF b6 (by simp) fun h8 b8 u8=>?_
        simp only [splice,List.take,List.drop,List.nil_append,List.cons_append,List.append_nil,List.length_cons,List.length_nil,Nat.zero_add,Nat.reduceAdd] at b8
        have r16:=((IN.ext x6).ints.upd u8 (ownF_ne (IN.ext x6) b6 (by decide))).cell (j:=1) (by rw [zq]; omega)
        rw [zaJ,hz0] at r16
        simp only [r16,za,Value.cells,Value.oneCell',Nat.reduceAdd,Nat.reduceSub,Nat.reduceMul,Nat.reduceLeDiff,Int.reduceEq,Nat.reduceEqDiff,zu,zY,zk]
        refine zbf fun h9 x9=>?_
        have b9:=x9.get b8
        simp only [b9,za,Value.cells,Value.oneCell',Nat.reduceAdd,Nat.reduceSub,Nat.reduceMul,Nat.reduceLeDiff,Int.reduceEq,Nat.reduceEqDiff,zu,zY,zk]
        refine zF b9 (by simp) fun h10 b10 u10=>?_
        simp only [splice,List.take,List.drop,List.nil_append,List.cons_append,List.append_nil,List.length_cons,List.length_nil,Nat.zero_add,Nat.reduceAdd] at b10
        refine zcV fun h11 x11=>?_
        have xF:Ext h1 h11:=(u10.ext ((u8.ext (y5.trans x6) (Nat.le_of_eq hB.symm)).trans x9) (Nat.le_of_eq hB.symm)).trans x11
        simp only [he,za,Value.cells,Value.oneCell',Nat.reduceAdd,Nat.reduceSub,Nat.reduceMul,Nat.reduceLeDiff,Int.reduceEq,Nat.reduceEqDiff,zk]
        exact⟨by rw [ze]; omega,zx (by kernel_rfl) ⟨xF,i+1,by omega,rfl,hok1 hn,.inr (.inl ⟨by omega,by omega,rfl,none,0,by rw [u0]; exact x11.get b10,by rw [u0]; exact OwnV.nil _ _ _ _⟩)⟩ meas⟩
    · have kd:decide ((i:Int)=0)=false:=decide_eq_false (by omega)
      have kd2:decide ((i:Int)=((L.length - 1:Nat):Int))=true:=decide_eq_true (by omega)
      have km:many=2:=by rw [hmany,zaf,if_neg k1,if_pos k2]
      have kmi:(2:Int)=(many:Int):=by omega
      obtain⟨he7,aE,cE,b3,OE⟩:e 7=.slice none 0 0∧∃ aE cE,h3[B]?=some (.cells #[.int .i64 k,.int .i64 z,.slice aE (i - 1) cE] 24)∧OwnV (B+1) h3 26 4 aE (i - 1) cE (ensV ((esOf L).take (i - 1))):=by
        rcases HC with⟨h1,_⟩ | ⟨_,_,h1,h2⟩ | ⟨h1,_⟩
        · omega
        · exact⟨h1,h2⟩
        · omega
      simp only [he,he7,eL,eL2,hlt,ci,kd,kd2,zi,Int.toNat_natCast,za,Value.cells,Value.oneCell',Nat.reduceAdd,Nat.reduceSub,Nat.reduceMul,Nat.reduceLeDiff,Int.reduceEq,Nat.reduceEqDiff,zk]
      refine⟨by rw [ze]; omega,by rw [ze]; omega,⟨by omega,by omega⟩,sS,?_⟩
      have r95:=zjB w many h3 (by omega)
      rw [← kmi] at r95
      refine zb.mono r95 ?_
      rintro v h5 ⟨HN,x5⟩
      have y5:=x3.trans x5
      have g5:=x5.get g3
      rcases HN with⟨hn,aN,cN,rfl,IN⟩ | ⟨hn,rfl⟩
      case inr=>
        have e8:=form hin (by rw [hwd,← hmany]; exact hn)
        simp only [g5,Bool.not_false,za,Value.cells,Value.oneCell',Nat.reduceAdd,Nat.reduceSub,Nat.reduceMul,Nat.reduceLeDiff,Int.reduceEq,Nat.reduceEqDiff,zk]
        refine zF g5 (by simp) fun hE gE uE=>?_
        simp only [splice,List.take,List.drop,List.nil_append,List.append_nil,List.length_cons,List.length_nil] at gE
        simp only [gE,za,Value.cells,Value.oneCell',Nat.reduceAdd,Nat.reduceSub,Nat.reduceMul,Nat.reduceLeDiff,Int.reduceEq,Nat.reduceEqDiff,zk]
        exact⟨.inr ⟨by omega,by rw [e8]⟩,uE.ext (x0.trans (x1.trans y5)) (Nat.le_refl _)⟩
      have hrl:=zcw hn
      have hrow:rowN w=numsL (zcG w):=rfl
      rw [← hrow] at IN ⊢
      have r0:=IN.ints.cell (j:=0) (by rw [zq]; omega)
      have r1:=IN.ints.cell (j:=1) (by rw [zq]; omega)
      have sr:=IN.ints.isSome (by rw [zq]; omega)
      rw [zaJ] at r0 r1
      simp only [he,he7,kd,kd2,eL2,Bool.not_true,za,Value.cells,Value.oneCell',Nat.reduceAdd,Nat.reduceSub,Nat.reduceMul,Nat.reduceLeDiff,Int.reduceEq,Nat.reduceEqDiff,zk]
      have b5:=x5.get b3
      have hEnd:zdM L=rowN w:=by
        unfold zdM
        rw [show L.length - 1=i by omega,hwd]
      have hn2:(rowN w).length=2:=by rw [hrl,km]
      have ui:L.length - 2=i - 1:=by omega
      have OE5:=OE.ext x5
      rw [List.take_of_length_le (by rw [zcx]; omega)] at OE5
      rw [hn2] at IN ⊢
      exact⟨by rw [ze]; omega,by rw [ze]; omega,zx (by kernel_rfl) ⟨y5,i+1,by omega,rfl,hok1 hn,.inr (.inr ⟨k2,⟨aN,cN,rfl,by rw [hEnd]; exact IN⟩,aE,cE,by rw [ui]; exact b5,by rw [ui]; exact OE5⟩)⟩ meas⟩
    · have kd:decide ((i:Int)=0)=false:=decide_eq_false (by omega)
      have kd2:decide ((i:Int)=((L.length - 1:Nat):Int))=false:=decide_eq_false (by omega)
      have km:many=4:=by rw [hmany,zaf,if_neg k1,if_neg k2]
      have kmi:(4:Int)=(many:Int):=by omega
      obtain⟨he7,aE,cE,b3,OE⟩:e 7=.slice none 0 0∧∃ aE cE,h3[B]?=some (.cells #[.int .i64 k,.int .i64 z,.slice aE (i - 1) cE] 24)∧OwnV (B+1) h3 26 4 aE (i - 1) cE (ensV ((esOf L).take (i - 1))):=by
        rcases HC with⟨h1,_⟩ | ⟨_,_,h1,h2⟩ | ⟨h1,_⟩
        · omega
        · exact⟨h1,h2⟩
        · omega
      simp only [he,he7,eL,eL2,hlt,ci,kd,kd2,zi,Int.toNat_natCast,za,Value.cells,Value.oneCell',Nat.reduceAdd,Nat.reduceSub,Nat.reduceMul,Nat.reduceLeDiff,Int.reduceEq,Nat.reduceEqDiff,zk]
      refine⟨by rw [ze]; omega,by rw [ze]; omega,⟨by omega,by omega⟩,sS,?_⟩
      have r95:=zjB w many h3 (by omega)
      rw [← kmi] at r95
      refine zb.mono r95 ?_
      rintro v h5 ⟨HN,x5⟩
      have y5:=x3.trans x5
      have g5:=x5.get g3
      rcases HN with⟨hn,aN,cN,rfl,IN⟩ | ⟨hn,rfl⟩
      case inr=>
        have e8:=form hin (by rw [hwd,← hmany]; exact hn)
        simp only [g5,Bool.not_false,za,Value.cells,Value.oneCell',Nat.reduceAdd,Nat.reduceSub,Nat.reduceMul,Nat.reduceLeDiff,Int.reduceEq,Nat.reduceEqDiff,zk]
        refine zF g5 (by simp) fun hE gE uE=>?_
        simp only [splice,List.take,List.drop,List.nil_append,List.append_nil,List.length_cons,List.length_nil] at gE
        simp only [gE,za,Value.cells,Value.oneCell',Nat.reduceAdd,Nat.reduceSub,Nat.reduceMul,Nat.reduceLeDiff,Int.reduceEq,Nat.reduceEqDiff,zk]
        exact⟨.inr ⟨by omega,by rw [e8]⟩,uE.ext (x0.trans (x1.trans y5)) (Nat.le_refl _)⟩
      have hrl:=zcw hn
      have hrow:rowN w=numsL (zcG w):=rfl
      rw [← hrow] at IN ⊢
      have r0:=IN.ints.cell (j:=0) (by rw [zq]; omega)
      have r1:=IN.ints.cell (j:=1) (by rw [zq]; omega)
      have sr:=IN.ints.isSome (by rw [zq]; omega)
      rw [zaJ] at r0 r1
      simp only [he,he7,kd,kd2,eL2,Bool.not_true,za,Value.cells,Value.oneCell',Nat.reduceAdd,Nat.reduceSub,Nat.reduceMul,Nat.reduceLeDiff,Int.reduceEq,Nat.reduceEqDiff,zk]
      have b5:=x5.get b3
      have r2:=IN.ints.cell (j:=2) (by rw [zq]; omega)
      have r3:=IN.ints.cell (j:=3) (by rw [zq]; omega)
      rw [zaJ] at r2 r3
      have hn4:(rowN w).length=4:=by rw [hrl,km]
      have z2:((2:Int)).toNat=2:=rfl
      have z3:((3:Int)).toNat=3:=rfl
      have OE5:=OE.ext x5
      refine⟨by rw [ze]; omega,?_⟩
      refine zd4 (by kernel_rfl) zbr (.quiet 0 (.quiet 1 (.quiet 2 (.quiet 3 (.quiet 4 (.quiet 5 (.quiet 6 (.quiet 7 (.quiet 8 (.quiet 9 (.quiet 10 (.quiet 11 (.quiet 12 (.quiet 13 (.quiet 14 (.keep 15 (.one 16 (.quiet 17 (.one 18 (.fin)))))))))))))))))))) (by kernel_rfl) rfl (by kernel_rfl) ?_
      simp only [b5,r0,r1,r2,r3,z2,z3,za,Value.cells,Value.oneCell',Nat.reduceAdd,Nat.reduceSub,Nat.reduceMul,Nat.reduceLeDiff,Int.reduceEq,Nat.reduceEqDiff,zu,zY,zk]
      refine⟨⟨by omega,by omega⟩,sr,⟨by omega,by omega⟩,sr,⟨by omega,by omega⟩,sr,⟨by omega,by omega⟩,sr,?_⟩
      simp only [splice,List.take,List.drop,List.nil_append,List.cons_append,List.append_nil,List.length_cons,List.length_nil,Nat.zero_add,Nat.reduceAdd,Nat.reduceLeDiff,if_true,za,Value.cells,Value.oneCell',Nat.reduceAdd,Nat.reduceSub,Nat.reduceMul,Nat.reduceLeDiff,Int.reduceEq,Nat.reduceEqDiff,zu,zY,zk]
      refine ze0 fun h9 x9=>?_
      simp only [splice,List.take,List.drop,List.nil_append,List.append_nil,List.length_cons,List.length_nil,za,Value.cells,Value.oneCell',Nat.reduceAdd,Nat.reduceSub,Nat.reduceMul,Nat.reduceLeDiff,Int.reduceEq,Nat.reduceEqDiff,zu,zY,zk]
      refine⟨by decide,(Ext.refl h9).push _,?_⟩
      refine zbf fun h10 x10=>?_
      have x510:Ext h5 h10:=x9.trans x10.of_push
      have OE10:=OE5.ext x510
      have b10:=x510.get b5
      have q10:=x10.get zy
      simp only [za,Value.cells,Value.oneCell',Nat.reduceAdd,Nat.reduceSub,Nat.reduceMul,Nat.reduceLeDiff,Int.reduceEq,Nat.reduceEqDiff,zu,zY,zk]
      refine appF22 (m0:=B+1) (len:=i - 1) (m:=1) (xs:=(esOf L).take (i - 1)) (ys:=[enOf (rowN w)]) rfl rfl OE10 (by have:=zP b10; omega) (Row.block (c:=ensV [enOf (rowN w)]) q10) rfl (by omega) fun a' cap' h11 O11 A11=>?_
      try simp only [za,Value.cells,Value.oneCell',Nat.reduceAdd,Nat.reduceSub,Nat.reduceMul,Nat.reduceLeDiff,Int.reduceEq,Nat.reduceEqDiff,zu,zY,zk]
      refine zbf fun h12 x12=>?_
      have b12:=x12.get (A11.updV OE10 b10 (by omega))
      simp only [b12,za,Value.cells,Value.oneCell',Nat.reduceAdd,Nat.reduceSub,Nat.reduceMul,Nat.reduceLeDiff,Int.reduceEq,Nat.reduceEqDiff,zu,zY,zk]
      refine zF b12 (by simp) fun h13 b13 u13=>?_
      simp only [splice,List.take,List.drop,List.nil_append,List.cons_append,List.append_nil,List.length_cons,List.length_nil,Nat.zero_add,Nat.reduceAdd] at b13
      refine zcV fun h14 x14=>?_
      simp only [he,za,Value.cells,Value.oneCell',Nat.reduceAdd,Nat.reduceSub,Nat.reduceMul,Nat.reduceLeDiff,Int.reduceEq,Nat.reduceEqDiff,zk]
      have O14:=((O11.ext x12).upd u13 (by omega)).ext x14
      have et:=ziv (L:=L) (j:=i - 1) (by omega)
      have ui:i - 1+1=i:=by omega
      have ui2:i+1 - 1=i:=by omega
      rw [ui,hwd] at et
      rw [ui] at O14 b13
      have xF:Ext h1 h14:=(u13.ext ((A11.extV OE10 (y5.trans x510) (by omega)).trans x12) (Nat.le_of_eq hB.symm)).trans x14
      exact⟨by rw [ze]; omega,zx (by kernel_rfl) ⟨xF,i+1,by omega,rfl,hok1 hn,.inr (.inl ⟨by omega,by omega,rfl,a',cap',by rw [ui2]; exact x14.get b13,by rw [ui2,et]; exact O14⟩)⟩ meas⟩
  obtain rfl:i=L.length:=by omega
  obtain⟨⟨aZ,cZ,he7,OZ⟩,aE,cE,b3,OE⟩:(∃ aZ cZ,e 7=.slice aZ 2 cZ∧OwnI 0 h3 2 aZ 2 cZ (nzF (zdM L)))∧∃ aE cE,h3[B]?=some (.cells #[.int .i64 k,.int .i64 z,.slice aE (L.length - 2) cE] 24)∧OwnV (B+1) h3 26 4 aE (L.length - 2) cE (ensV (esOf L)):=by
    rcases HC with⟨h1,_⟩ | ⟨_,h1,_⟩ | ⟨_,h1,h2⟩
    · omega
    · omega
    · exact⟨h1,h2⟩
  have hfrm:zc8 (lnsB s):=by rw [← hL]; exact hok
  have y3:=x3
  obtain⟨es,hes⟩:∃ es,es=esOf L:=⟨_,rfl⟩
  have esl:L.length - 2=es.length:=by rw [hes,zcx]
  rw [← hes] at OE
  have hEs:esOf (lnsB s)=es:=by rw [← hL,hes]
  obtain⟨r,hr⟩:∃ r,r=zdM L:=⟨_,rfl⟩
  rw [← hr] at OZ
  have hrl:r.length=2:=by have:=OZ.ln; rw [zq] at this; omega
  have hEq:zeL (lnsB s)↔r.getD 0 0=es.length∧((r.getD 1 0:Nat):Int)=totL es:=by
    unfold zeL
    rw [hEs,← hL,← hr]
  have hlf:decide ((L.length:Int)<(L.length:Int))=false:=decide_eq_false (by omega)
  simp only [he,he7,eL,hlf,za,Value.cells,Value.oneCell',Nat.reduceAdd,Nat.reduceSub,Nat.reduceMul,Nat.reduceLeDiff,Int.reduceEq,Nat.reduceEqDiff,zk]
  refine⟨by rw [ze]; omega,?_⟩
  refine zK [3,12,91,92,93,94,95,96,97,98,99,100,101,102,103] (fun e h'=>h'=h3∧∃ i:Nat,i≤L.length∧e 12=.int .i64 i∧(L.take i).all rgtB=true) (fun e _=>match e 12 with | .int _ q=>L.length - q.toNat | _=>0) ⟨rfl,0,by omega,rfl,rfl⟩ ?_
  rintro e2 h4 ⟨rfl,i,hi,he2,hall⟩
  by_cases hin:i<L.length
  · have hlt:decide ((i:Int)<(L.length:Int))=true:=decide_eq_true (by omega)
    have meas:L.length - ((i:Int)+1).toNat<L.length - (i:Int).toNat:=by omega
    have ci:=zb4 (RS.ext x3) (j:=i) (by omega)
    obtain⟨w,hw⟩:∃ w,w=L[i]:=⟨_,rfl⟩
    have hwd:L.getD i ⟨#[]⟩=w:=by rw [hw,List.getD_eq_getElem?_getD,List.getElem?_eq_getElem hin]; rfl
    have hww:ws[i]=w:=by
      have h1:ws[i]?=some w:=by rw [hwe,List.getElem?_append_left hin,List.getElem?_eq_getElem hin,hw]
      rw [List.getElem?_eq_getElem (by omega)] at h1
      exact Option.some.inj h1
    rw [hww] at ci
    have hrd:=hok i hin
    rw [hwd] at hrd
    have hEw:=zos hrd.1
    have hal:(L.take (i+1)).all rgtB=rgtB w:=by
      rw [zbu L hin,← hw,List.all_append,hall]
      simp
    simp only [he2,eL,hlt,ci,Int.toNat_natCast,za,Value.cells,Value.oneCell',Nat.reduceAdd,Nat.reduceSub,Nat.reduceMul,Nat.reduceLeDiff,Int.reduceEq,Nat.reduceEqDiff,zk]
    refine⟨by rw [ze]; omega,⟨by omega,by omega⟩,sS,?_⟩
    refine zb.mono (check37 w h4) ?_
    rintro v h5 ⟨rfl,rfl⟩
    rw [hEw]
    cases hrg:rgtB w with
    | true=>
      rw [hrg] at hal
      simp only [he2,if_true,decide_true,Bool.not_true,za,Value.cells,Value.oneCell',Nat.reduceAdd,Nat.reduceSub,Nat.reduceMul,Nat.reduceLeDiff,Int.reduceEq,Nat.reduceEqDiff,zk]
      exact⟨by rw [ze]; omega,zx (by kernel_rfl) ⟨rfl,i+1,by omega,rfl,hal⟩ meas⟩
    | false=>
      have hwr:(lnsB s).all rgtB=false:=by
        rw [← hL,Bool.eq_false_iff]
        intro hh
        have:=List.all_eq_true.1 hh w (by rw [hw]; exact List.getElem_mem hin)
        rw [hrg] at this; cases this
      have e14:=zma c1 h1f hfrm hwr
      have d14:decide ((14:Int)=0)=false:=rfl
      simp only [he2,g3,d14,Bool.false_eq_true,if_false,Bool.not_false,za,Value.cells,Value.oneCell',Nat.reduceAdd,Nat.reduceSub,Nat.reduceMul,Nat.reduceLeDiff,Int.reduceEq,Nat.reduceEqDiff,zk]
      refine zF g3 (by simp) fun hE gE uE=>?_
      simp only [splice,List.take,List.drop,List.nil_append,List.append_nil,List.length_cons,List.length_nil] at gE
      simp only [gE,za,Value.cells,Value.oneCell',Nat.reduceAdd,Nat.reduceSub,Nat.reduceMul,Nat.reduceLeDiff,Int.reduceEq,Nat.reduceEqDiff,zk]
      exact⟨.inr ⟨by omega,by rw [e14]⟩,uE.ext (x0.trans (x1.trans y3)) (Nat.le_refl _)⟩
  obtain rfl:i=L.length:=by omega
  rw [List.take_of_length_le (Nat.le_refl _)] at hall
  have hwr:(lnsB s).all rgtB=true:=by rw [← hL]; exact hall
  have r0:=OZ.ints.cell (j:=0) (by rw [zq]; omega)
  have r1:=OZ.ints.cell (j:=1) (by rw [zq]; omega)
  have sr:=OZ.ints.isSome (by rw [zq]; omega)
  rw [zaJ] at r0 r1
  simp only [he2,eL,hlf,za,Value.cells,Value.oneCell',Nat.reduceAdd,Nat.reduceSub,Nat.reduceMul,Nat.reduceLeDiff,Int.reduceEq,Nat.reduceEqDiff,zk]
  refine⟨by rw [ze]; omega,?_⟩
  refine zbH (by kernel_rfl) zbr [(0,0),(1,0),(2,0),(3,0),(4,0),(5,0),(6,0),(7,0),(8,0),(9,0),(10,0),(11,0),(12,0),(13,0),(14,0),(15,0)] (by kernel_rfl) rfl (by kernel_rfl) ?_
  by_cases q1:r.getD 0 0=es.length
  case neg=>
    have q1d:decide (((r.getD 0 0:Nat):Int)=((L.length - 2:Nat):Int))=false:=decide_eq_false (by omega)
    have e15:=zgb c1 h1f hfrm hwr (fun hh=>q1 (hEq.1 hh).1)
    simp only [r0,b3,q1d,zi,zaZ,Bool.not_false,za,Value.cells,Value.oneCell',Nat.reduceAdd,Nat.reduceSub,Nat.reduceMul,Nat.reduceLeDiff,Int.reduceEq,Nat.reduceEqDiff,zu,zk]
    refine⟨⟨by omega,by omega⟩,sr,?_⟩
    refine zbl fun h10 x10=>?_
    have g10:=x10.get g3
    simp only [g10,za,Value.cells,Value.oneCell',Nat.reduceAdd,Nat.reduceSub,Nat.reduceMul,Nat.reduceLeDiff,Int.reduceEq,Nat.reduceEqDiff,zk]
    refine zF g10 (by simp) fun hE gE uE=>?_
    simp only [splice,List.take,List.drop,List.nil_append,List.append_nil,List.length_cons,List.length_nil] at gE
    simp only [gE,za,Value.cells,Value.oneCell',Nat.reduceAdd,Nat.reduceSub,Nat.reduceMul,Nat.reduceLeDiff,Int.reduceEq,Nat.reduceEqDiff,zk]
    exact⟨.inr ⟨by omega,by rw [e15]⟩,uE.ext (x0.trans (x1.trans (y3.trans x10))) (Nat.le_refl _)⟩
  have q1d:decide (((r.getD 0 0:Nat):Int)=((L.length - 2:Nat):Int))=true:=decide_eq_true (by omega)
  have hab:∀ e∈es,0≤e.a∧e.a≤1000000:=by
    rw [← hEs]
    exact ziw hfrm
  simp only [r0,r1,b3,q1d,zi,zaZ,Bool.not_true,za,Value.cells,Value.oneCell',Nat.reduceAdd,Nat.reduceSub,Nat.reduceMul,Nat.reduceLeDiff,Int.reduceEq,Nat.reduceEqDiff,zu,zk]
  refine⟨⟨by omega,by omega⟩,sr,⟨by omega,by omega⟩,sr,?_⟩
  refine zel _ (fun h' x'=>zb.mono (zmB aE (L.length - 2) cE es h' (OE.row.ext x') esl (by omega) hab) fun v h'' q=>⟨q.1,by rw [q.2]; exact Ext.refl _⟩) ?_
  by_cases q2:((r.getD 1 0:Nat):Int)=totL es
  case neg=>
    have q2d:decide (((r.getD 1 0:Nat):Int)=totL es)=false:=decide_eq_false q2
    have e15:=zgb c1 h1f hfrm hwr (fun hh=>q2 (hEq.1 hh).2)
    simp only [q2d,zi,zaZ,Bool.not_false,za,Value.cells,Value.oneCell',Nat.reduceAdd,Nat.reduceSub,Nat.reduceMul,Nat.reduceLeDiff,Int.reduceEq,Nat.reduceEqDiff,zu,zk]
    refine zbl fun h10 x10=>?_
    have g10:=x10.get g3
    simp only [g10,za,Value.cells,Value.oneCell',Nat.reduceAdd,Nat.reduceSub,Nat.reduceMul,Nat.reduceLeDiff,Int.reduceEq,Nat.reduceEqDiff,zk]
    refine zF g10 (by simp) fun hE gE uE=>?_
    simp only [splice,List.take,List.drop,List.nil_append,List.append_nil,List.length_cons,List.length_nil] at gE
    simp only [gE,za,Value.cells,Value.oneCell',Nat.reduceAdd,Nat.reduceSub,Nat.reduceMul,Nat.reduceLeDiff,Int.reduceEq,Nat.reduceEqDiff,zk]
    exact⟨.inr ⟨by omega,by rw [e15]⟩,uE.ext (x0.trans (x1.trans (y3.trans x10))) (Nat.le_refl _)⟩
  have q2d:decide (((r.getD 1 0:Nat):Int)=totL es)=true:=decide_eq_true q2
  have ec:=zl6 c1 h1f hfrm hwr (hEq.2 ⟨q1,q2⟩)
  rw [hEs,← hL,← hk,← hz] at ec
  simp only [q2d,zi,zaZ,Bool.not_true,za,Value.cells,Value.oneCell',Nat.reduceAdd,Nat.reduceSub,Nat.reduceMul,Nat.reduceLeDiff,Int.reduceEq,Nat.reduceEqDiff,zu,zk]
  refine zbl fun h10 x10=>?_
  have b10:=x10.get b3
  simp only [b10,za,Value.cells,Value.oneCell',Nat.reduceAdd,Nat.reduceSub,Nat.reduceMul,Nat.reduceLeDiff,Int.reduceEq,Nat.reduceEqDiff,zk]
  refine zb.mono (zfY k z aE (L.length - 2) cE es h10 (OE.row.ext x10) esl (by omega)) ?_
  rintro v h11 ⟨rfl,x11⟩
  have y11:=x10.trans x11
  have b11:=y11.get b3
  by_cases hc:chk k z es=0
  case neg=>
    have hcd:decide (chk k z es=0)=false:=decide_eq_false hc
    simp only [hcd,b11,Bool.not_false,za,Value.cells,Value.oneCell',Nat.reduceAdd,Nat.reduceSub,Nat.reduceMul,Nat.reduceLeDiff,Int.reduceEq,Nat.reduceEqDiff,zk]
    refine zb.mono (zfY k z aE (L.length - 2) cE es h11 (OE.row.ext y11) esl (by omega)) ?_
    rintro v h12 ⟨rfl,x12⟩
    have g12:=(y11.trans x12).get g3
    simp only [g12,za,Value.cells,Value.oneCell',Nat.reduceAdd,Nat.reduceSub,Nat.reduceMul,Nat.reduceLeDiff,Int.reduceEq,Nat.reduceEqDiff,zk]
    refine zF g12 (by simp) fun hE gE uE=>?_
    simp only [splice,List.take,List.drop,List.nil_append,List.append_nil,List.length_cons,List.length_nil] at gE
    simp only [gE,za,Value.cells,Value.oneCell',Nat.reduceAdd,Nat.reduceSub,Nat.reduceMul,Nat.reduceLeDiff,Int.reduceEq,Nat.reduceEqDiff,zk]
    exact⟨.inr ⟨by omega,by rw [ec]⟩,uE.ext (x0.trans (x1.trans (y3.trans (y11.trans x12)))) (Nat.le_refl _)⟩
  have hcd:decide (chk k z es=0)=true:=decide_eq_true hc
  have g11:=y11.get g3
  simp only [hcd,b11,g11,Bool.not_true,za,Value.cells,Value.oneCell',Nat.reduceAdd,Nat.reduceSub,Nat.reduceMul,Nat.reduceLeDiff,Int.reduceEq,Nat.reduceEqDiff,zk]
  refine zF g11 (by simp) fun h12 g12 u12=>?_
  simp only [splice,List.take,List.drop,List.nil_append,List.cons_append,List.append_nil,List.length_cons,List.length_nil,Nat.zero_add,Nat.reduceAdd] at g12
  simp only [g12,za,Value.cells,Value.oneCell',Nat.reduceAdd,Nat.reduceSub,Nat.reduceMul,Nat.reduceLeDiff,Int.reduceEq,Nat.reduceEqDiff,zk]
  have xU:Ext h h12:=u12.ext (x0.trans (x1.trans (y3.trans y11))) (Nat.le_refl _)
  refine⟨.inl ⟨by omega,aE,L.length - 2,cE,by rw [← hL,← hk,← hz],by rw [hEs]; exact esl,?_⟩,xU⟩
  rw [hEs]
  exact ((OE.ext y11).upd u12 (by have:=x0.size; have:=x1.size; omega)).row
end Go.Proofs.YtepaekbjoombpaaGreatDoor
end
