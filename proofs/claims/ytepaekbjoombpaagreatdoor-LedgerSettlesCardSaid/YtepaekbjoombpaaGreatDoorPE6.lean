/- Texts joined by pack.py: lemmas for YtepaekbjoombpaaGreatDoorSettles. No condition. -/
import Derived.Test.YtepaekbjoombpaaGreatDoorPE5
import Derived.Lib.AppendZerosOnto
import Derived.Lib.Overlaps
import Derived.RangeFuncIn
import Derived.LoopNIn
import Derived.ProofKit
set_option linter.unusedSimpArgs false
set_option linter.unusedVariables false
set_option linter.defProp false
section
namespace Go.Proofs.YtepaekbjoombpaaGreatDoor
open Go Go.Proofs Go.Eng Tab
set_option maxRecDepth 100000
set_option linter.unusedSimpArgs false
set_option linter.unusedVariables false
set_option maxHeartbeats 1000000
set_option linter.defProp false
def zej:=(And.intro (And.intro (And.intro (And.intro @zeU (And.intro @agg2 @zin)) (And.intro @zhm (And.intro @agg3 @by26))) (And.intro (And.intro @zoO (And.intro @zgE @zff)) (And.intro (And.intro @ze9 @zeT) (And.intro @ziT @ze7)))) (And.intro (And.intro (And.intro @inf2 (And.intro @zi2 @zg9)) (And.intro (And.intro @inf3 @zhb) (And.intro @sz2 @sz22))) (And.intro (And.intro @sz26 (And.intro @sz3 @zdZ)) (And.intro (And.intro @zero26 @Tryz.underlying22) (And.intro @Tryz.underlying37 @Tryz.underlying104)))))
def zfa:=(And.intro (And.intro @agg2 @inf2) (And.intro @sz2 @Tryz.underlying104))
theorem zoi (g:Nat)(xs:List Int)(f t:Nat)(m:Int)(h:Eng.Heap)(hb:h[g]?=some (.cells (ints xs).toArray 104))(hl:xs.length=8)(hf:f<8)(ht:t<8)
    (o1:InK .i64 (xs.getD f 0 - m)) (o2:InK .i64 ((xs.set f (xs.getD f 0 - m)).getD t 0+m)) :
    zb Tryz.prog 107 #[.pointer (some ⟨g,0,none⟩),.int .i64 f,.int .i64 t,.int .i64 m] h (fun v h'=>h'[g]?=some (.cells (ints (zdI xs f t m)).toArray 104)∧Upd h h' g):=by
  (refine ze Tryz.func107 rfl bod107 ?_; simp only [Tryz.ntmps107,Tryz.results107,za,zh,splice,Value.cells,Value.oneCell',Nat.reduceAdd,Nat.reduceSub,Nat.reduceMul,Nat.reduceLeDiff,Int.reduceEq,Nat.reduceEqDiff,zfa])
  refine zam (by kernel_rfl) zaM [(0,0),(1,0),(2,0),(3,0),(4,0),(5,0),(6,0),(7,0),(8,0),(9,1)] (by kernel_rfl) rfl (by kernel_rfl) ?_
  simp only [hb,ints_getElem? xs f (by omega),Int.toNat_natCast,za,Value.cells,Value.oneCell',Nat.reduceAdd,Nat.reduceSub,Nat.reduceMul,Nat.reduceLeDiff,Int.reduceEq,Nat.reduceEqDiff,zx,zfa]
  repeat (refine And.intro (by first | omega | (rw [zf]; omega) | rfl | assumption) ?_)
  refine zax hb (by simp [zl]; omega) fun h2 g2 u2=>?_
  rw [zbn _ _ _ (by rw [zl]; omega),ints_set] at g2
  simp only [zW,za,Value.cells,Value.oneCell',Nat.reduceAdd,Nat.reduceSub,Nat.reduceMul,Nat.reduceLeDiff,Int.reduceEq,Nat.reduceEqDiff,zx,zfa]
  refine zam (by kernel_rfl) zaM [(0,0),(1,0),(2,0),(3,0),(4,0),(5,0),(6,0),(7,0),(8,0),(9,1)] (by kernel_rfl) rfl (by kernel_rfl) ?_
  simp only [g2,ints_getElem? (xs.set f (xs.getD f 0 - m)) t (by simp; omega),Int.toNat_natCast,zW,za,Value.cells,Value.oneCell',Nat.reduceAdd,Nat.reduceSub,Nat.reduceMul,Nat.reduceLeDiff,Int.reduceEq,Nat.reduceEqDiff,zx,zfa]
  repeat (refine And.intro (by first | omega | (rw [zf]; omega) | rfl | assumption) ?_)
  refine zax g2 (by simp [zl]; omega) fun h3 g3 u3=>?_
  rw [zbn _ _ _ (by simp [zl]; omega),ints_set] at g3
  simp only [zW,za,Value.cells,Value.oneCell',Nat.reduceAdd,Nat.reduceSub,Nat.reduceMul,Nat.reduceLeDiff,Int.reduceEq,Nat.reduceEqDiff,zx,zfa]
  exact⟨g3,u2.trans u3⟩
theorem clr37 {h:Eng.Heap}{er:Env}{ty ct:TypeId}{x:Operand}{g off n c:Nat}{cur:List Value}{K:Value→Eng.Heap→Prop}(hx:ev er x=.slice (some ⟨g,off,none⟩) n c)(hb:h[g]?=some (.cells cur.toArray ct (0,0)))(hl:off+n≤cur.length)
    (H:∀ h',h'[g]?=some (.cells (splice cur off (List.replicate n (.int .i64 0))).toArray ct (0,0))→Upd h h' g→K (.tuple #[]) h'):zg Tryz.prog (.call ⟨.builtin .clear,#[x],#[37]⟩) ty er h K:=
  znX Tryz.underlying37 zfP hx hb hl H
theorem zcQ (g0:Nat)(acc cl:Int)(a:Option Addr)(n c:Nat)(es:List En)(day:Int)(h:Eng.Heap)(hb0:h[g0]?=some (.cells #[.int .i64 acc,.int .i64 cl,.slice a n c] 150))(hr:Row h a (ensV es))(hn:n=es.length)(hl:n≤20)(hok:∀ e∈es,okE acc e)(ha:acc≤8)(hne:∀ e∈es,e.f≠e.t) :
    zb Tryz.prog 79 #[.pointer (some ⟨g0,0,none⟩),.int .i64 day] h (fun v h'=>v=.agg (ints (bals 8 es day)).toArray∧Ext h h'):=by
  (refine ze Tryz.func79 rfl bod79 ?_; simp only [Tryz.ntmps79,Tryz.results79,za,zh,splice,Value.cells,Value.oneCell',Nat.reduceAdd,Nat.reduceSub,Nat.reduceMul,Nat.reduceLeDiff,Int.reduceEq,Nat.reduceEqDiff,zej])
  have e8:(((8:Nat):Int) - ((0:Nat):Int)).toNat=8:=rfl
  simp only [ite_self,e8]
  refine⟨by omega,by omega,by omega,by omega,?_⟩
  have hb1:=zu (h:=h.push (.cells #[.int .i64 0,.int .i64 0,.int .i64 0,.int .i64 0,.int .i64 0,.int .i64 0,.int .i64 0,.int .i64 0] 104)) (o:=.cells #[.int .i64 0,.int .i64 0,.int .i64 0,.int .i64 0,.int .i64 0,.int .i64 0,.int .i64 0,.int .i64 0] 104)
  rw [zaa] at hb1
  refine clr37 (cur:=[.int .i64 0,.int .i64 0,.int .i64 0,.int .i64 0,.int .i64 0,.int .i64 0,.int .i64 0,.int .i64 0]) rfl hb1 (by simp) fun h1 g1 u1=>?_
  have x1:Ext h h1:=u1.ext (((Ext.refl h).push _).push _) (by omega)
  have q4:h1[h.size]?=some (.cells #[.int .i64 0,.int .i64 0,.int .i64 0,.int .i64 0,.int .i64 0,.int .i64 0,.int .i64 0,.int .i64 0] 104):=u1.get pn0 (by omega)
  replace g1:h1[h.size+1]?=some (.cells (ints (bals 8 (es.take 0) day)).toArray 104):=by rw [List.take_zero,zlQ]; exact g1
  have hb2:=x1.get hb0
  simp only [hb2,za,Value.cells,Value.oneCell',Nat.reduceAdd,Nat.reduceSub,Nat.reduceMul,Nat.reduceLeDiff,Int.reduceEq,Nat.reduceEqDiff,zej]
  refine zo [7,15,16,17,18,19,20,21,22,23,24,25,26,27,28,29,30] (fun g h'=>∃ i:Nat,i≤n∧g 15=.int .i64 i∧h'[h.size+1]?=some (.cells (ints (bals 8 (es.take i) day)).toArray 104)∧h'[h.size]?=some (.cells #[.int .i64 0,.int .i64 0,.int .i64 0,.int .i64 0,.int .i64 0,.int .i64 0,.int .i64 0,.int .i64 0] 104)∧Ext h h') (fun g _=>match g 15 with | .int _ m=>n - m.toNat | _=>0) ⟨0,by omega,rfl,g1,q4,x1⟩ ?_
  rintro g h' ⟨i,hin,hg,hb,hq,hx⟩
  have hlt:h.size+1<h'.size:=zt hb
  by_cases hi:i<es.length
  · have hsm:a.isSome=true:=hr.isSome (by rw [zaq]; omega)
    have hc1:=rowE (hr.ext hx) hi
    have hoe:=hok _ (List.getElem_mem hi)
    have hfe:=hne _ (List.getElem_mem hi)
    obtain⟨f,hf⟩:∃ f:Nat,es[i].f=f:=⟨es[i].f.toNat,by unfold okE at hoe; omega⟩
    obtain⟨t,ht⟩:∃ t:Nat,es[i].t=t:=⟨es[i].t.toNat,by unfold okE at hoe; omega⟩
    have hf8:f<8:=by unfold okE at hoe; omega
    have ht8:t<8:=by unfold okE at hoe; omega
    have hft:f≠t:=by omega
    rw [hf,ht] at hc1
    simp only [hg,hc1,za,Value.cells,Value.oneCell',Nat.reduceAdd,Nat.reduceSub,Nat.reduceMul,Nat.reduceLeDiff,Int.reduceEq,Nat.reduceEqDiff,zej]
    refine⟨fun _=>?_,fun hge=>absurd hge (by omega)⟩
    refine⟨by omega,hsm,?_⟩
    simp only [za,zh,splice,Value.cells,Value.oneCell',Nat.reduceAdd,Nat.reduceSub,Nat.reduceMul,Nat.reduceLeDiff,Int.reduceEq,Nat.reduceEqDiff,zej]
    refine⟨fun hd=>?_,fun hd=>?_⟩
    · have hb':(h'.push (.cells #[.int .i64 es[i].d,.int .i64 f,.int .i64 t,.int .i64 es[i].a] 26))[h.size+1]?=some (.cells (ints (bals 8 (es.take i) day)).toArray 104):=zaO hb
      have hA:∀ k,-(20000:Int)≤balA (es.take i) day k∧balA (es.take i) day k≤20000:=fun k=>by
        have:=zbG day k (es:=es.take i) fun e he=>hok e (List.mem_of_mem_take he)
        have h2:(es.take i).length≤20:=by rw [List.length_take]; omega
        omega
      have h1:=hA f
      have h2:=hA t
      have h3:1≤es[i].a∧es[i].a≤1000:=hoe.2.2.2
      refine zb.mono (zoi (h.size+1) _ f t es[i].a _ hb' (zm ..) hf8 ht8 ?_ ?_) ?_
      · rw [zL _ _ hf8,zf]; omega
      · rw [zdb,if_neg (by omega),zL _ _ ht8,zf]; omega
      · rintro v h3 ⟨g3,u3⟩
        rw [zeB hd hf ht hf8 ht8,← zdD hi] at g3
        simp only [za,Value.cells,Value.oneCell',Nat.reduceAdd,Nat.reduceSub,Nat.reduceMul,Nat.reduceLeDiff,Int.reduceEq,Nat.reduceEqDiff,zej]
        refine⟨by rw [zf]; omega,zi (by kernel_rfl) ⟨i+1,by omega,rfl,g3,u3.get (zaO hq) (by omega),u3.ext (hx.push _) (by omega)⟩ ?_⟩
        show n - ((i:Int)+1).toNat<n - (i:Int).toNat
        omega
    · refine⟨by rw [zf]; omega,zi (by kernel_rfl) ⟨i+1,by omega,rfl,?_,zaO hq,hx.push _⟩ ?_⟩
      · rw [zdD hi,zj8 (by omega)]; exact zaO hb
      · show n - ((i:Int)+1).toNat<n - (i:Int).toNat
        omega
  · obtain rfl:i=n:=by omega
    rw [List.take_of_length_le (by omega)] at hb
    obtain⟨b0,b1,b2,b3,b4,b5,b6,b7,h8⟩:∃ b0 b1 b2 b3 b4 b5 b6 b7:Int,bals 8 es day=[b0,b1,b2,b3,b4,b5,b6,b7]:=⟨_,_,_,_,_,_,_,_,rfl⟩
    replace hb:h'[h.size+1]?=some (.cells #[.int .i64 b0,.int .i64 b1,.int .i64 b2,.int .i64 b3,.int .i64 b4,.int .i64 b5,.int .i64 b6,.int .i64 b7] 104):=by rw [hb,h8]; rfl
    simp only [hg,hb,hq,za,Value.cells,Value.oneCell',Nat.reduceAdd,Nat.reduceSub,Nat.reduceMul,Nat.reduceLeDiff,Int.reduceEq,Nat.reduceEqDiff,zej]
    refine⟨fun hlt=>absurd hlt (by omega),fun _=>?_⟩
    refine zax hq (by simp) fun h3 g3 u3=>?_
    simp only [splice] at g3
    simp only [g3,za,zh,splice,Value.cells,Value.oneCell',Nat.reduceAdd,Nat.reduceSub,Nat.reduceMul,Nat.reduceLeDiff,Int.reduceEq,Nat.reduceEqDiff,zej]
    refine⟨by rw [h8]; rfl,u3.ext hx (by omega)⟩
end Go.Proofs.YtepaekbjoombpaaGreatDoor
end
section
namespace Go.Proofs.YtepaekbjoombpaaGreatDoor
open Go Go.Proofs Go.Eng Tab
theorem zbX {acc cl:Int}{es:List En}(H:chk acc cl es=0):(2≤acc∧acc≤8)∧es.length≤20∧(0≤cl∧cl≤30)∧(∀ e∈es,okE acc e)∧zda es∧∀ e∈es,e.f≠e.t:=by
  unfold chk at H
  split at H
  · omega
  split at H
  · omega
  split at H
  · omega
  rename_i h1 h2 h3
  rw [not_or] at h1 h2 h3
  refine⟨Classical.not_not.1 h1.1,by omega,Classical.not_not.1 h2.1,Classical.not_not.1 h2.2,Classical.not_not.1 h3.1,fun e he hh=>h3.2 ⟨e,he,hh⟩⟩
theorem zbZ {acc cl:Int}{es:List En}{days:List Int}(H:opn acc cl es days=0):chk acc cl es=0∧inB 0 30 days=true:=by
  unfold opn at H
  split at H
  · rename_i h; exact absurd H h
  split at H
  · rename_i h1 h2; exact⟨Classical.not_not.1 h1,h2⟩
  · omega
theorem zbC {a:Option Addr}:eltP a 0=a:=by cases a <;> simp [eltP,addA]
end Go.Proofs.YtepaekbjoombpaaGreatDoor
end
section
namespace Go.Proofs.YtepaekbjoombpaaGreatDoor
open Go Go.Proofs Go.Eng Tab
set_option maxRecDepth 100000
set_option linter.unusedSimpArgs false
set_option linter.unusedVariables false
set_option maxHeartbeats 1000000
set_option linter.defProp false
def zdp:=(And.intro (And.intro (And.intro (And.intro @agg2 (And.intro @zin @zhm)) (And.intro @agg3 (And.intro @by2 @by26))) (And.intro (And.intro @zel (And.intro @zgE @zff)) (And.intro @ze9 (And.intro @zeT @ziT)))) (And.intro (And.intro (And.intro @inf2 (And.intro @zi2 @zg9)) (And.intro @inf3 (And.intro @sz2 @sz22))) (And.intro (And.intro @sz26 (And.intro @sz3 @zfP)) (And.intro @zero26 (And.intro @Tryz.underlying22 @Tryz.underlying37)))))
theorem zf2 (k:Nat)(cl:Int)(a:Option Addr)(n c:Nat)(es:List En)(day:Int)(h:Eng.Heap)(hr:Row h a (ensV es))(hn:n=es.length)(hl:n≤20)(hok:∀ e∈es,okE k e)(ha:k≤8)(hne:∀ e∈es,e.f≠e.t) :
    zb Tryz.prog 80 #[.agg #[.int .i64 k,.int .i64 cl,.slice a n c],.int .i64 day] h (fun v h'=>(∃ g,v=.slice (some ⟨g,0,none⟩) k k∧h'[g]?=some (.cells (ints (bals k es day)).toArray 2)∧h.size≤g)∧Ext h h'):=by
  (refine ze Tryz.func80 rfl bod80 ?_; simp only [Tryz.ntmps80,Tryz.results80,za,zh,splice,Value.cells,Value.oneCell',Nat.reduceAdd,Nat.reduceSub,Nat.reduceMul,Nat.reduceLeDiff,Int.reduceEq,Nat.reduceEqDiff,zdp])
  refine⟨by omega,by omega,by omega,by omega,?_⟩
  have q1:((h.push (.cells #[.int .i64 k,.int .i64 cl,.slice a n c] 24)).push (.cells (List.replicate k [Value.int .i64 0]).flatten.toArray 2))[h.size+1]?=some (.cells (ints (bals k (es.take 0) day)).toArray 2):=by
    rw [pn1,List.take_zero,zlQ]; simp [ints]
  have q0:((h.push (.cells #[.int .i64 k,.int .i64 cl,.slice a n c] 24)).push (.cells (List.replicate k [Value.int .i64 0]).flatten.toArray 2))[h.size]?=some (.cells #[.int .i64 k,.int .i64 cl,.slice a n c] 24):=pn0
  refine zo [6,7,11,12,13,14,15,16,17,18,19,20,21,22,23,24,25,26,27,28,29,30,31,32,33,34,35,36,37,38,39,40,41,42,43,44] (fun g h'=>∃ i:Nat,i≤n∧g 6=.int .i64 i∧h'[h.size+1]?=some (.cells (ints (bals k (es.take i) day)).toArray 2)∧h'[h.size]?=some (.cells #[.int .i64 k,.int .i64 cl,.slice a n c] 24)∧Ext h h') (fun g _=>match g 6 with | .int _ m=>n - m.toNat | _=>0) ⟨0,by omega,rfl,q1,q0,((Ext.refl h).push _).push _⟩ ?_
  clear q0 q1
  rintro g h' ⟨i,hin,hg,hb,hq,hx⟩
  have hlt:h.size+1<h'.size:=zt hb
  by_cases hi:i<es.length
  · have hsm:a.isSome=true:=hr.isSome (by rw [zaq]; omega)
    have hc1:=rowE (hr.ext hx) hi
    have hoe:=hok _ (List.getElem_mem hi)
    have hfe:=hne _ (List.getElem_mem hi)
    obtain⟨f,hf⟩:∃ f:Nat,es[i].f=f:=⟨es[i].f.toNat,by unfold okE at hoe; omega⟩
    obtain⟨t,ht⟩:∃ t:Nat,es[i].t=t:=⟨es[i].t.toNat,by unfold okE at hoe; omega⟩
    have hf8:f<k:=by unfold okE at hoe; omega
    have ht8:t<k:=by unfold okE at hoe; omega
    have hft:f≠t:=by omega
    rw [hf,ht] at hc1
    simp only [hg,hq,hc1,Int.toNat_natCast,za,Value.cells,Value.oneCell',Nat.reduceAdd,Nat.reduceSub,Nat.reduceMul,Nat.reduceLeDiff,Int.reduceEq,Nat.reduceEqDiff,zdp]
    refine⟨fun _=>?_,fun hge=>absurd hge (by omega)⟩
    refine⟨by omega,hsm,?_⟩
    simp only [za,zh,splice,Value.cells,Value.oneCell',Nat.reduceAdd,Nat.reduceSub,Nat.reduceMul,Nat.reduceLeDiff,Int.reduceEq,Nat.reduceEqDiff,zdp]
    refine⟨fun hd=>?_,fun hd=>?_⟩
    · have hb':(h'.push (.cells #[.int .i64 es[i].d,.int .i64 f,.int .i64 t,.int .i64 es[i].a] 26))[h.size+1]?=some (.cells (ints (bals k (es.take i) day)).toArray 2):=zaO hb
      have hn':=zu (h:=h') (o:=.cells #[.int .i64 es[i].d,.int .i64 f,.int .i64 t,.int .i64 es[i].a] 26)
      have hA:∀ k,-(20000:Int)≤balA (es.take i) day k∧balA (es.take i) day k≤20000:=fun k=>by
        have:=zbG day k (es:=es.take i) fun e he=>hok e (List.mem_of_mem_take he)
        have h2:(es.take i).length≤20:=by rw [List.length_take]; omega
        omega
      have h1:=hA f
      have h2:=hA t
      have h3:1≤es[i].a∧es[i].a≤1000:=hoe.2.2.2
      rw [← zL (n:=k) _ _ hf8] at h1
      rw [← zL (n:=k) _ _ ht8] at h2
      refine zam (by kernel_rfl) zaM [(0,0),(1,0),(2,0),(3,0),(4,0),(5,0),(6,0),(7,0),(8,0),(9,1)] (by kernel_rfl) rfl (by kernel_rfl) ?_
      simp only [hn',hb',ints_getElem? (bals k (es.take i) day) t (by rw [zm]; omega),Int.toNat_natCast,zW,za,Value.cells,Value.oneCell',Nat.reduceAdd,Nat.reduceSub,Nat.reduceMul,Nat.reduceLeDiff,Int.reduceEq,Nat.reduceEqDiff,zx,zdp]
      refine⟨by omega,rfl,by rw [zf]; omega,by omega,rfl,?_⟩
      refine zax hb' (by simp [zl,zm]; omega) fun h4 g4 u4=>?_
      rw [zbn _ _ _ (by rw [zl,zm]; omega),ints_set] at g4
      have hn4:=u4.get hn' (by omega)
      simp only [zW,za,Value.cells,Value.oneCell',Nat.reduceAdd,Nat.reduceSub,Nat.reduceMul,Nat.reduceLeDiff,Int.reduceEq,Nat.reduceEqDiff,zx,zdp]
      have h5:((bals k (es.take i) day).set t ((bals k (es.take i) day).getD t 0+es[i].a)).getD f 0=(bals k (es.take i) day).getD f 0:=by
        rw [zdb,if_neg (by omega)]
      refine zam (by kernel_rfl) zaM [(0,0),(1,0),(2,0),(3,0),(4,0),(5,0),(6,0),(7,0),(8,0),(9,1)] (by kernel_rfl) rfl (by kernel_rfl) ?_
      simp only [hn4,g4,ints_getElem? ((bals k (es.take i) day).set t ((bals k (es.take i) day).getD t 0+es[i].a)) f (by simp [zm]; omega),Int.toNat_natCast,zW,za,Value.cells,Value.oneCell',Nat.reduceAdd,Nat.reduceSub,Nat.reduceMul,Nat.reduceLeDiff,Int.reduceEq,Nat.reduceEqDiff,zx,zdp]
      refine⟨by omega,rfl,by rw [zf,h5]; omega,by omega,rfl,?_⟩
      refine zax g4 (by simp [zl,zm]; omega) fun h6 g6 u6=>?_
      rw [zbn _ _ _ (by simp [zl,zm]; omega),ints_set] at g6
      have g7:h6[h.size+1]?=some (.cells (ints (zgX (bals k (es.take i) day) f t es[i].a)).toArray 2):=g6
      rw [zp7 hd hf ht hf8 ht8,← zdD hi] at g7
      simp only [zW,za,Value.cells,Value.oneCell',Nat.reduceAdd,Nat.reduceSub,Nat.reduceMul,Nat.reduceLeDiff,Int.reduceEq,Nat.reduceEqDiff,zx,zdp]
      refine⟨by rw [zf]; omega,zi (by kernel_rfl) ⟨i+1,by omega,rfl,g7,u6.get (u4.get (zaO hq) (by omega)) (by omega),u6.ext (u4.ext (hx.push _) (by omega)) (by omega)⟩ ?_⟩
      show n - ((i:Int)+1).toNat<n - (i:Int).toNat
      omega
    · refine⟨by rw [zf]; omega,zi (by kernel_rfl) ⟨i+1,by omega,rfl,?_,zaO hq,hx.push _⟩ ?_⟩
      · rw [zdD hi,zj8 (by omega)]; exact zaO hb
      · show n - ((i:Int)+1).toNat<n - (i:Int).toNat
        omega
  · obtain rfl:i=n:=by omega
    rw [List.take_of_length_le (by omega)] at hb
    simp only [hg,hq,za,Value.cells,Value.oneCell',Nat.reduceAdd,Nat.reduceSub,Nat.reduceMul,Nat.reduceLeDiff,Int.reduceEq,Nat.reduceEqDiff,zdp]
    exact⟨fun hlt=>absurd hlt (by omega),fun _=>⟨⟨_,rfl,hb,by omega⟩,hx⟩⟩
theorem zef (k:Nat)(cl:Int)(a:Option Addr)(n c:Nat)(es:List En)(day:Int)(h:Eng.Heap)(hr:Row h a (ensV es))(hn:n=es.length)(hl:n≤20)(hok:∀ e∈es,okE k e)(ha:k≤8)(hne:∀ e∈es,e.f≠e.t) :
    zb Tryz.prog 80 #[.agg #[.int .i64 k,.int .i64 cl,.slice a n c],.int .i64 day] h (fun v h'=>(∃ b m c,v=.slice b m c∧zJ h' b m (bals k es day)∧m≤8)∧Ext h h'):=by
  refine zb.mono (zf2 k cl a n c es day h hr hn hl hok ha hne) ?_
  rintro v h' ⟨⟨g,rfl,hb,_⟩,x⟩
  refine⟨⟨_,k,k,rfl,?_,ha⟩,x⟩
  have:=zJ.block hb
  rwa [zm] at this
end Go.Proofs.YtepaekbjoombpaaGreatDoor
end
section
namespace Go.Proofs.YtepaekbjoombpaaGreatDoor
set_option linter.unusedSimpArgs false
set_option linter.unusedVariables false
set_option linter.defProp false
namespace LS
def sm (f:Nat→Int):Nat→Int
  | 0=>0
  | n+1=>sm f n+f n
theorem zbu {f g:Nat→Int}:∀ {n:Nat},(∀ i,i<n→f i=g i)→sm f n=sm g n
  | 0,_=>rfl
  | n+1,h=>by rw [sm,sm,zbu fun i hi=>h i (by omega),h n (by omega)]
theorem ze0 (f g:Nat→Int):∀ n,sm (fun i=>f i+g i) n=sm f n+sm g n
  | 0=>rfl
  | n+1=>by rw [sm,sm,sm,ze0 f g n]; omega
theorem zf6 (a:Nat)(x:Int):∀ n,sm (fun i=>if i=a then x else 0) n=if a<n then x else 0
  | 0=>rfl
  | n+1=>by
    rw [sm,zf6 a x n]
    by_cases h:n=a
    · subst h; rw [if_neg (by omega),if_pos rfl,if_pos (by omega)]; omega
    · rw [if_neg h]
      by_cases h2:a<n
      · rw [if_pos h2,if_pos (by omega)]; omega
      · rw [if_neg h2,if_neg (by omega)]; omega
theorem zjM {f:Nat→Int}{n:Nat}(h:∀ i,i<n→f i=0):sm f n=0:=by
  rw [zbu (g:=fun _=>0) h]
  induction n with
  | zero=>rfl
  | succ n ih=>rw [sm,ih fun i hi=>h i (by omega)]; rfl
structure P where
  a:Nat
  b:Nat
  x:Int
def give (l:Nat→Int)(p:P):Nat→Int:=fun i=>l i - (if i=p.a then p.x else 0)+if i=p.b then p.x else 0
def cs (f:Nat→Nat)(A r:Nat)(l:Nat→Int):Int:=sm (fun i=>if f i=r then l i else 0) A
theorem zeu:∀ {l m:List Nat},l.Nodup→(∀ x∈l,x∈m)→l.length≤m.length
  | [],_,_,_=>by simp
  | x::l,m,hn,h=>by
    obtain⟨h1,h2⟩:=List.nodup_cons.1 hn
    have h3:=zeu (l:=l) (m:=m.erase x) h2 (fun y hy=>(List.mem_erase_of_ne (fun e=>h1 (by rw [← e]; exact hy))).2 (h y (List.mem_cons_of_mem _ hy)))
    have hx:=h x List.mem_cons_self
    rw [List.length_erase_of_mem hx] at h3
    have h4:=List.length_pos_of_mem hx
    rw [List.length_cons]
    omega
end LS
end Go.Proofs.YtepaekbjoombpaaGreatDoor
end
section
namespace Go.Proofs.YtepaekbjoombpaaGreatDoor
set_option linter.unusedSimpArgs false
set_option linter.unusedVariables false
set_option linter.defProp false
namespace LS
theorem zfM (x y:Nat):(x&&&y) / 2=x / 2&&&y / 2:=by
  apply Nat.eq_of_testBit_eq
  intro i
  rw [Nat.testBit_and,Nat.testBit_div_two,Nat.testBit_div_two,Nat.testBit_div_two,Nat.testBit_and]
theorem zhe (x y:Nat):(x&&&y) % 2=x % 2*(y % 2):=by
  have h:=Nat.testBit_and x y 0
  rw [Nat.testBit_zero,Nat.testBit_zero,Nat.testBit_zero] at h
  rcases Nat.mod_two_eq_zero_or_one x with hx | hx <;> rcases Nat.mod_two_eq_zero_or_one y with hy | hy <;> rcases Nat.mod_two_eq_zero_or_one (x&&&y) with hz | hz <;> rw [hx,hy,hz] at h <;> rw [hx,hy,hz] <;> simp at h
theorem zkW:∀ (q p l:Nat),q&&&l=q→p&&&l=p→q<p→q≤(p - 1)&&&l:=fun q=>by
  induction q using Nat.strongRecOn with
  | ind q ih=>
    intro p l hq hp hlt
    by_cases h0:q=0
    · omega
    have a1:=zfM q l
    have a2:=zhe q l
    have b1:=zfM p l
    have b2:=zhe p l
    rw [hq] at a1 a2
    rw [hp] at b1 b2
    have c1:=zfM (p - 1) l
    have c2:=zhe (p - 1) l
    rcases Nat.mod_two_eq_zero_or_one p with hp2 | hp2
    · have e1:(p - 1) / 2=p / 2 - 1:=by omega
      have e2:(p - 1) % 2=1:=by omega
      rw [e1] at c1
      rw [e2,Nat.one_mul] at c2
      have h1:=ih (q / 2) (by omega) (p / 2) (l / 2) a1.symm b1.symm (by omega)
      have h2:q % 2≤l % 2:=by
        rcases Nat.mod_two_eq_zero_or_one l with h | h
        · rw [h,Nat.mul_zero] at a2; omega
        · omega
      omega
    · have e1:(p - 1) / 2=p / 2:=by omega
      rw [e1,← b1] at c1
      omega
theorem zn5 (p l:Nat):((p - 1)&&&l)&&&l=(p - 1)&&&l:=by rw [Nat.and_assoc,Nat.and_self]
theorem zn3 {p l:Nat}(hp:0<p):(p - 1)&&&l<p:=by
  have:(p - 1)&&&l≤p - 1:=Nat.and_le_left
  omega
inductive Gr (z:Nat→Prop):Nat→Nat→Prop
  | nil:Gr z 0 0
  | cons (p r k:Nat):z p→p≠0→p&&&r=0→Gr z r k→Gr z (p|||r) (k+1)
theorem zbc {x y:Nat}(h:x&&&y=0)(i:Nat):¬ (x.testBit i=true∧y.testBit i=true):=fun ⟨h1,h2⟩=>by
  have:=congrArg (fun n=>n.testBit i) h
  simp only [Nat.testBit_and,h1,h2,Nat.zero_testBit,Bool.and_self] at this
  cases this
theorem zcx {x y:Nat}(h:∀ i,¬ (x.testBit i=true∧y.testBit i=true)):x&&&y=0:=by
  apply Nat.eq_of_testBit_eq
  intro i
  rw [Nat.testBit_and,Nat.zero_testBit]
  have:=h i
  cases hx:x.testBit i <;> cases hy:y.testBit i <;> simp_all
theorem Gr.first {z:Nat→Prop}{s k:Nat}(h:Gr z s k){i:Nat}(hi:s.testBit i=true):∃ p r k',s=p|||r∧p&&&r=0∧z p∧p.testBit i=true∧Gr z r k'∧k=k'+1:=by
  induction h with
  | nil=>rw [Nat.zero_testBit] at hi; cases hi
  | cons p r k hz hp hd hr ih=>
    by_cases hpi:p.testBit i=true
    · exact⟨p,r,k,rfl,hd,hz,hpi,hr,rfl⟩
    · have hri:r.testBit i=true:=by
        rw [Nat.testBit_or] at hi
        cases h1:p.testBit i with
        | true=>exact absurd h1 hpi
        | false=>rw [h1] at hi; simpa using hi
      obtain⟨p',r',k',e,hd',hz',hi',hr',hk⟩:=ih hri
      have hpp:∀ j,¬ (p.testBit j=true∧(p'|||r').testBit j=true):=fun j=>by rw [← e]; exact zbc hd j
      have h1:p&&&r'=0:=zcx fun j hj=>hpp j ⟨hj.1,by rw [Nat.testBit_or,hj.2,Bool.or_true]⟩
      refine⟨p',p|||r',k'+1,?_,?_,hz',hi',.cons p r' k' hz hp h1 hr',by omega⟩
      · rw [e]
        apply Nat.eq_of_testBit_eq
        intro j
        simp only [Nat.testBit_or]
        cases p.testBit j <;> cases p'.testBit j <;> cases r'.testBit j <;> rfl
      · refine zcx fun j hj=>?_
        rw [Nat.testBit_or,Bool.or_eq_true] at hj
        rcases hj.2 with h2 | h2
        · exact hpp j ⟨h2,by rw [Nat.testBit_or,hj.1,Bool.true_or]⟩
        · exact zbc hd' j ⟨hj.1,h2⟩
structure Most (z:Nat→Prop)(s k:Nat):Prop where
  le:∀ j,Gr z s j→j≤k
  is:k=0∨Gr z s k
theorem Gr.zero {z:Nat→Prop}{k:Nat}(h:Gr z 0 k):k=0:=by
  generalize hs:(0:Nat)=s at h
  cases h with
  | nil=>rfl
  | cons p r k hz hp hd hr=>
    exfalso
    have:p≤p|||r:=Nat.left_le_or
    omega
theorem zkG (z:Nat→Prop):Most z 0 0:=⟨fun j h=>by rw [h.zero]; exact Nat.le_refl _,.inl rfl⟩
theorem zrD {z:Nat→Prop}{s k i:Nat}(hs:s.testBit i=true)(hle:∀ p r j,s=p|||r→p&&&r=0→z p→p.testBit i=true→Gr z r j→j+1≤k)(his:k=0∨∃ p r j,s=p|||r∧p&&&r=0∧z p∧p≠0∧Gr z r j∧k=j+1):Most z s k:=by
  refine⟨fun j h=>?_,?_⟩
  · obtain⟨p,r,k',e,h1,h2,h3,h4,h5⟩:=h.first hs
    have:=hle p r k' e h1 h2 h3 h4
    omega
  · rcases his with h | ⟨p,r,j,rfl,h2,h3,h4,h5,rfl⟩
    · exact .inl h
    · exact .inr (.cons p r j h3 h4 h2 h5)
end LS
end Go.Proofs.YtepaekbjoombpaaGreatDoor
end
section
namespace Go.Proofs.YtepaekbjoombpaaGreatDoor
set_option linter.unusedSimpArgs false
set_option linter.unusedVariables false
set_option linter.defProp false
namespace LS
def msk (P:Nat→Bool):Nat→Nat
  | 0=>0
  | n+1=>msk P n|||if P n then 2 ^ n else 0
theorem zaU (P:Nat→Bool):∀ (n i:Nat),(msk P n).testBit i=(decide (i<n)&&P i)
  | 0,i=>by rw [msk,Nat.zero_testBit]; simp
  | n+1,i=>by
    rw [msk,Nat.testBit_or,zaU P n i]
    have h2:(if P n then 2 ^ n else 0).testBit i=(decide (i=n)&&P n):=by
      cases h:P n with
      | true=>
        rw [if_pos rfl,Nat.testBit_two_pow,Bool.and_true]
        exact decide_eq_decide.2 ⟨fun e=>e.symm,fun e=>e.symm⟩
      | false=>rw [if_neg (by decide),Nat.zero_testBit,Bool.and_false]
    rw [h2]
    by_cases e:i=n
    · subst e
      simp
    · have e1:decide (i<n+1)=decide (i<n):=decide_eq_decide.2 ⟨fun h=>by omega,fun h=>by omega⟩
      rw [e1,decide_eq_false e]
      simp
def zero (l:Nat→Int)(A s:Nat):Prop:=sm (fun i=>if s.testBit i then l i else 0) A=0
def opn (l:Nat→Int)(i:Nat):Bool:=!decide (l i=0)
def opens (l:Nat→Int)(A:Nat):Nat:=((List.range A).filter (opn l)).length
end LS
end Go.Proofs.YtepaekbjoombpaaGreatDoor
end
section
namespace Go.Proofs.YtepaekbjoombpaaGreatDoor
set_option linter.unusedSimpArgs false
set_option linter.unusedVariables false
set_option linter.defProp false
namespace LS
def Pt (z:Nat→Prop):Nat→List Nat→Prop
  | s,[]=>s=0
  | s,p::ps=>∃ r,s=p|||r∧p&&&r=0∧z p∧p≠0∧Pt z r ps
theorem Pt.gr {z:Nat→Prop}:∀ {ps:List Nat} {s:Nat},Pt z s ps→Gr z s ps.length
  | [],s,h=>by
    have h:s=0:=h
    rw [h]
    exact .nil
  | p::ps,s,⟨r,h1,h2,h3,h4,h5⟩=>by
    rw [h1]
    exact .cons p r _ h3 h4 h2 (Pt.gr h5)
theorem Pt.split {z:Nat→Prop}:∀ {ps:List Nat} {s p q q':Nat},Pt z s ps→p∈ps→p=q|||q'→q&&&q'=0→z q→z q'→q≠0→q'≠0→Gr z s (ps.length+1)
  | [],_,_,_,_,_,h,_,_,_,_,_,_=>absurd h List.not_mem_nil
  | x::ps,s,p,q,q',⟨r,h1,h2,h3,h4,h5⟩,hp,e,hd,hz,hz',hq,hq'=>by
    rcases List.mem_cons.1 hp with e2 | hp
    · subst e2
      have hxr:=fun i=>zbc h2 i
      have d1:q'&&&r=0:=zcx fun i hi=>hxr i ⟨by rw [e,Nat.testBit_or,hi.1,Bool.or_true],hi.2⟩
      have d2:q&&&(q'|||r)=0:=zcx fun i hi=>by
        have h6:=hi.2
        rw [Nat.testBit_or,Bool.or_eq_true] at h6
        rcases h6 with h6 | h6
        · exact zbc hd i ⟨hi.1,h6⟩
        · exact hxr i ⟨by rw [e,Nat.testBit_or,hi.1,Bool.true_or],h6⟩
      have:=Gr.cons q (q'|||r) _ hz hq d2 (.cons q' r _ hz' hq' d1 (Pt.gr h5))
      rw [h1,e,Nat.or_assoc]
      exact this
    · rw [h1]
      exact .cons x r _ h3 h4 h2 (Pt.split h5 hp e hd hz hz' hq hq')
theorem Pt.whole {z:Nat→Prop}{ps:List Nat}{s p q q':Nat}(h:Pt z s ps)(hm:Most z s ps.length)(hp:p∈ps)(e:p=q|||q')(hd:q&&&q'=0)(hz:z q)(hz':z q')(hq:q≠0)(hq':q'≠0):False:=by
  have:=hm.le _ (h.split hp e hd hz hz' hq hq')
  omega
def pay (a b:Nat)(x:Int):P:=if x<0 then ⟨b,a,-x⟩ else ⟨a,b,x⟩
def chn (l:Nat→Int):Nat→Int→List Nat→List P
  | _,_,[]=>[]
  | a,x,b::bs=>pay a b x::chn l b (x+l b) bs
theorem ziW (l:Nat→Int):∀ (a:Nat) (x:Int) (bs:List Nat),(chn l a x bs).length=bs.length
  | _,_,[]=>rfl
  | a,x,b::bs=>by rw [chn,List.length_cons,List.length_cons,ziW l b]
theorem give_pay (l:Nat→Int){a b:Nat}(x:Int)(h:a≠b)(i:Nat):give l (pay a b x) i=if i=a then l i - x else if i=b then l i+x else l i:=by
  unfold give pay
  split
  · by_cases h1:i=a
    · subst h1; simp only [if_true,h,if_false]; omega
    · by_cases h2:i=b
      · subst h2; simp only [if_true,h1,if_false]; omega
      · simp only [h1,h2,if_false]; omega
  · by_cases h1:i=a
    · subst h1; simp only [if_true,h,if_false]; omega
    · by_cases h2:i=b
      · subst h2; simp only [if_true,h1,if_false]; omega
      · simp only [h1,h2,if_false]; omega
def tot (l:Nat→Int):List Nat→Int
  | []=>0
  | b::bs=>l b+tot l bs
theorem zhw (l:Nat→Int):∀ (bs:List Nat) (a:Nat) (x:Int) (c:Nat→Int),(a::bs).Nodup→c a=x→(∀ i,i∈bs→c i=l i)→x+tot l bs=0→∀ i,(chn l a x bs).foldl give c i=if i∈a::bs then 0 else c i
  | [],a,x,c,_,ha,_,h0,i=>by
    rw [chn,List.foldl_nil]
    rw [tot] at h0
    by_cases h:i=a
    · subst h; rw [if_pos List.mem_cons_self,ha]; omega
    · rw [if_neg (by simpa using h)]
  | b::bs,a,x,c,hn,ha,hb,h0,i=>by
    obtain⟨n1,n2⟩:=List.nodup_cons.1 hn
    have hab:a≠b:=fun e=>n1 (e ▸ List.mem_cons_self)
    obtain⟨n3,_⟩:=List.nodup_cons.1 n2
    rw [tot] at h0
    have hg:=give_pay c x hab
    have ih:=zhw l bs b (x+l b) (give c (pay a b x)) n2 (by rw [hg,if_neg hab.symm,if_pos rfl,hb b List.mem_cons_self]; omega) (fun j hj=>by
      have j1:j≠a:=fun e=>n1 (e ▸ List.mem_cons_of_mem _ hj)
      have j2:j≠b:=fun e=>n3 (e ▸ hj)
      rw [hg,if_neg j1,if_neg j2,hb j (List.mem_cons_of_mem _ hj)]) (by omega) i
    rw [chn,List.foldl_cons,ih]
    by_cases h1:i∈b::bs
    · rw [if_pos h1,if_pos (List.mem_cons_of_mem _ h1)]
    · rw [if_neg h1,hg]
      by_cases h2:i=a
      · subst h2; rw [if_pos rfl,if_pos List.mem_cons_self,ha]; omega
      · have h3:i≠b:=fun e=>h1 (e ▸ List.mem_cons_self)
        rw [if_neg h2,if_neg h3,if_neg]
        rintro h4
        rcases List.mem_cons.1 h4 with h4 | h4
        · exact h2 h4
        · exact h1 h4
end LS
end Go.Proofs.YtepaekbjoombpaaGreatDoor
end
section
namespace Go.Proofs.YtepaekbjoombpaaGreatDoor
set_option linter.unusedSimpArgs false
set_option linter.unusedVariables false
set_option linter.defProp false
namespace LS
theorem or_half (x y:Nat):(x|||y) / 2=x / 2|||y / 2:=by
  apply Nat.eq_of_testBit_eq
  intro i
  rw [Nat.testBit_or,Nat.testBit_div_two,Nat.testBit_div_two,Nat.testBit_div_two,Nat.testBit_or]
theorem or_low (x y:Nat):(x|||y) % 2=max (x % 2) (y % 2):=by
  have h:=Nat.testBit_or x y 0
  rw [Nat.testBit_zero,Nat.testBit_zero,Nat.testBit_zero] at h
  rcases Nat.mod_two_eq_zero_or_one x with hx | hx <;> rcases Nat.mod_two_eq_zero_or_one y with hy | hy <;> rcases Nat.mod_two_eq_zero_or_one (x|||y) with hz | hz <;> rw [hx,hy,hz] at h <;> rw [hx,hy,hz] <;> simp at h <;> decide
theorem zmm:∀ (p r:Nat),p&&&r=0→p|||r=p+r:=fun p=>by
  induction p using Nat.strongRecOn with
  | ind p ih=>
    intro r h
    by_cases h0:p=0
    · subst h0; rw [Nat.zero_or,Nat.zero_add]
    have a1:=zfM p r
    have a2:=zhe p r
    rw [h] at a1 a2
    have b1:=or_half p r
    have b2:=or_low p r
    have h1:=ih (p / 2) (by omega) (r / 2) (by rw [← a1])
    rw [h1] at b1
    have h2:p % 2=0∨r % 2=0:=by
      rcases Nat.mod_two_eq_zero_or_one p with hp | hp
      · exact .inl hp
      · rw [hp,Nat.one_mul] at a2; exact .inr a2.symm
    have h3:max (p % 2) (r % 2)=p % 2+r % 2:=by rcases h2 with h | h <;> rw [h] <;> omega
    omega
theorem zeE {p s:Nat}(h:p&&&s=p):s=p|||(s - p)∧p&&&(s - p)=0:=by
  obtain⟨r,hr⟩:∃ r,r=s ^^^ p:=⟨_,rfl⟩
  have hb:∀ i,p.testBit i=true→s.testBit i=true:=fun i hi=>by
    rw [← h,Nat.testBit_and,Bool.and_eq_true] at hi
    exact hi.2
  have h1:p&&&r=0:=zcx fun i hi=>by
    rw [hr,Nat.testBit_xor,hb i hi.1,hi.1] at hi
    exact Bool.noConfusion hi.2
  have h2:s=p|||r:=by
    apply Nat.eq_of_testBit_eq
    intro i
    rw [Nat.testBit_or,hr,Nat.testBit_xor]
    have:=hb i
    cases hp:p.testBit i <;> cases hs:s.testBit i <;> simp_all
  have h3:=zmm p r h1
  have h4:r=s - p:=by omega
  rw [← h4]
  exact⟨h2,h1⟩
theorem rest_of {p r s:Nat}(h:s=p|||r)(hd:p&&&r=0):r=s - p∧p&&&s=p:=by
  have h1:=zmm p r hd
  refine⟨by omega,?_⟩
  apply Nat.eq_of_testBit_eq
  intro i
  rw [h,Nat.testBit_and,Nat.testBit_or]
  cases p.testBit i <;> rfl
structure Loop (z:Nat→Prop)(s i part best:Nat):Prop where
  in_:part&&&s=part
  le:∀ q j,part<q→q&&&s=q→z q→q.testBit i=true→Gr z (s - q) j→j+1≤best
  is:best=0∨∃ q j,q&&&s=q∧z q∧q≠0∧Gr z (s - q) j∧best=j+1
theorem Loop.start (z:Nat→Prop)(s i:Nat):Loop z s i s 0:=⟨Nat.and_self s,fun q j h hq=>by
  have:q&&&s≤s:=Nat.and_le_right
  omega,.inl rfl⟩
theorem Loop.skip {z:Nat→Prop}{s i part best:Nat}(L:Loop z s i part best)(h0:0<part)(h:z part→part.testBit i=true→False):Loop z s i ((part - 1)&&&s) best:=⟨zn5 _ _,fun q j h1 h2 h3 h4 h5=>by
  by_cases e:q=part
  · subst e; exact (h h3 h4).elim
  · by_cases h6:part<q
    · exact L.le q j h6 h2 h3 h4 h5
    · have:=zkW q part s h2 L.in_ (by omega)
      omega,L.is⟩
theorem Loop.take {z:Nat→Prop}{s i part best k:Nat}(L:Loop z s i part best)(h0:0<part)(hz:z part)(hk:Most z (s - part) k)(hk2:k≠0∨Gr z (s - part) 0):Loop z s i ((part - 1)&&&s) (max best (1+k)):=⟨zn5 _ _,fun q j h1 h2 h3 h4 h5=>by
  by_cases e:q=part
  · subst e
    have:=hk.le j h5
    omega
  · by_cases h6:part<q
    · have:=L.le q j h6 h2 h3 h4 h5; omega
    · have:=zkW q part s h2 L.in_ (by omega)
      omega,by
  have hg:Gr z (s - part) k:=by
    rcases hk.is with h | h
    · subst h
      rcases hk2 with h | h
      · exact absurd rfl h
      · exact h
    · exact h
  rcases L.is with h | ⟨q,j,a,b,c,d,e⟩
  · exact .inr ⟨part,k,L.in_,hz,by omega,hg,by omega⟩
  · by_cases hm:best≤1+k
    · exact .inr ⟨part,k,L.in_,hz,by omega,hg,by omega⟩
    · exact .inr ⟨q,j,a,b,c,d,by omega⟩⟩
theorem Loop.fin {z:Nat→Prop}{s i best:Nat}(L:Loop z s i 0 best)(hs:s.testBit i=true):Most z s best:=by
  refine zrD hs (fun p r j e hd hz hi hr=>?_) ?_
  · obtain⟨h1,h2⟩:=rest_of e hd
    rw [h1] at hr
    have:p≠0:=fun e=>by rw [e,Nat.zero_testBit] at hi; cases hi
    exact L.le p j (by omega) h2 hz hi hr
  · rcases L.is with h | ⟨q,j,a,b,c,d,e⟩
    · exact .inl h
    · obtain⟨h1,h2⟩:=zeE a
      exact .inr ⟨q,s - q,j,h1,h2,b,c,d,e⟩
theorem zlu {z:Nat→Prop}{s k:Nat}(h:Most z s k)(hz:z s)(hs:s≠0):k≠0:=by
  have h1:Gr z (s|||0) (0+1):=.cons s 0 0 hz hs (Nat.and_zero s) .nil
  rw [Nat.or_zero] at h1
  have:=h.le _ h1
  omega
theorem zls (l:Nat→Int)(A:Nat){p r:Nat}(hd:p&&&r=0):sm (fun i=>if (p|||r).testBit i then l i else 0) A=sm (fun i=>if p.testBit i then l i else 0) A+sm (fun i=>if r.testBit i then l i else 0) A:=by
  rw [← ze0]
  refine zbu fun i _=>?_
  have:=zbc hd i
  rw [Nat.testBit_or]
  cases hp:p.testBit i <;> cases hr:r.testBit i
  · simp
  · simp
  · simp
  · exact absurd ⟨hp,hr⟩ this
theorem zgL {l:Nat→Int}{A p s:Nat}(h:p&&&s=p)(hs:zero l A s)(hp:zero l A p):zero l A (s - p):=by
  obtain⟨h1,h2⟩:=zeE h
  have h3:=zls l A h2
  rw [← h1] at h3
  unfold zero at *
  omega
theorem zkO {l:Nat→Int}{A s k:Nat}(h:Most (zero l A) s k)(hz:zero l A s):k≠0∨Gr (zero l A) s 0:=by
  by_cases hs:s=0
  · rw [hs]; exact .inr .nil
  · exact .inl (zlu h hz hs)
end LS
end Go.Proofs.YtepaekbjoombpaaGreatDoor
end
section
namespace Go.Proofs.YtepaekbjoombpaaGreatDoor
set_option linter.unusedSimpArgs false
set_option linter.unusedVariables false
set_option linter.defProp false
namespace LS
theorem zoE:∀ {o F:List Int},o.Nodup→(∀ x,x∈o→x∈F)→F.length=o.length→o.Perm F
  | [],F,_,_,h=>by
    have:F=[]:=List.eq_nil_of_length_eq_zero (by simpa using h)
    rw [this]
  | x::o,F,hn,hs,h=>by
    obtain⟨h1,h2⟩:=List.nodup_cons.1 hn
    have hx:=hs x List.mem_cons_self
    have h3:(F.erase x).length=o.length:=by rw [List.length_erase_of_mem hx,h,List.length_cons]; rfl
    have h4:=zoE h2 (fun y hy=>(List.mem_erase_of_ne (fun e=>h1 (by rw [← e]; exact hy))).2 (hs y (List.mem_cons_of_mem _ hy))) h3
    exact (h4.cons x).trans (List.perm_cons_erase hx).symm
theorem zrn {g:List Int}(h:g.Pairwise (·≤·))(hn:g.Nodup):g.Pairwise (·<·):=(h.and hn).imp fun h=>by have:=h.1; have:=h.2; omega
theorem ziY {o:List Int}{gs:List (List Int)}(ho:o.Nodup):((∀ g,g∈gs→g.Pairwise (·≤·))∧gs.flatten.Perm o)↔((∀ g,g∈gs→g.Pairwise (·<·))∧(∀ x,x∈o→gs.flatten.count x=1)∧gs.flatten.length=o.length):=by
  constructor
  · rintro⟨h1,h2⟩
    have hn:gs.flatten.Nodup:=h2.nodup_iff.2 ho
    refine⟨fun g hg=>zrn (h1 g hg) (List.Pairwise.sublist (List.sublist_flatten_of_mem hg) hn),fun x hx=>?_,h2.length_eq⟩
    rw [h2.count_eq,List.Nodup.count ho,if_pos hx]
  · rintro⟨h1,h2,h3⟩
    refine⟨fun g hg=>(h1 g hg).imp fun h=>by omega,(zoE ho (fun x hx=>?_) h3).symm⟩
    exact List.count_pos_iff.1 (by rw [h2 x hx]; decide)
theorem zrK {l o:List Int}(hl:l.Pairwise (·≤·))(ho:o.Pairwise (·<·))(hp:l.Perm o):l=o:=by
  refine hp.eq_of_pairwise (fun a b _ _ h1 h2=>by omega) hl (ho.imp fun h=>by omega)
end LS
end Go.Proofs.YtepaekbjoombpaaGreatDoor
end
section
namespace Go.Proofs.YtepaekbjoombpaaGreatDoor
set_option linter.unusedSimpArgs false
set_option linter.unusedVariables false
set_option linter.defProp false
namespace LS
def lsum (F:Nat→Int):List Nat→Int
  | []=>0
  | x::l=>F x+lsum F l
theorem zqJ {F:Nat→Int}{l k:List Nat}(h:l.Perm k):lsum F l=lsum F k:=by
  induction h with
  | nil=>rfl
  | cons x _ ih=>rw [lsum,lsum,ih]
  | swap x y l=>simp only [lsum]; omega
  | trans _ _ h1 h2=>exact h1.trans h2
theorem zbN (F:Nat→Int):∀ l k:List Nat,lsum F (l++k)=lsum F l+lsum F k
  | [],k=>by simp [lsum]
  | x::l,k=>by rw [List.cons_append,lsum,lsum,zbN F l k]; omega
theorem zg2 (F:Nat→Int):∀ A,sm F A=lsum F (List.range A)
  | 0=>rfl
  | A+1=>by rw [sm,List.range_succ,zbN,zg2 F A]; simp [lsum]
theorem zml (F:Nat→Int)(f:Nat→Nat):∀ l:List Nat,lsum F (l.map f)=lsum (fun x=>F (f x)) l
  | []=>rfl
  | x::l=>by rw [List.map_cons,lsum,lsum,zml F f l]
theorem permN:∀ {o F:List Nat},o.Nodup→(∀ x,x∈o→x∈F)→F.length=o.length→o.Perm F
  | [],F,_,_,h=>by
    have:F=[]:=List.eq_nil_of_length_eq_zero (by simpa using h)
    rw [this]
  | x::o,F,hn,hs,h=>by
    obtain⟨h1,h2⟩:=List.nodup_cons.1 hn
    have hx:=hs x List.mem_cons_self
    have h3:(F.erase x).length=o.length:=by rw [List.length_erase_of_mem hx,h,List.length_cons]; rfl
    have h4:=permN h2 (fun y hy=>(List.mem_erase_of_ne (fun e=>h1 (by rw [← e]; exact hy))).2 (hs y (List.mem_cons_of_mem _ hy))) h3
    exact (h4.cons x).trans (List.perm_cons_erase hx).symm
structure Ren (A:Nat)(f:Nat→Nat):Prop where
  lt:∀ i,i<A→f i<A
  inj:∀ i k,i<A→k<A→f i=f k→i=k
theorem Ren.perm {A:Nat}{f:Nat→Nat}(R:Ren A f):((List.range A).map f).Perm (List.range A):=by
  refine permN ?_ (fun x hx=>?_) (by simp)
  · rw [List.Nodup,List.pairwise_map]
    exact List.nodup_range.imp_of_mem fun {a b} ha hb hne e=>hne (R.inj a b (List.mem_range.1 ha) (List.mem_range.1 hb) e)
  · obtain⟨i,hi,rfl⟩:=List.mem_map.1 hx
    exact List.mem_range.2 (R.lt i (List.mem_range.1 hi))
theorem Ren.sum {A:Nat}{f:Nat→Nat}(R:Ren A f)(F:Nat→Int):sm (fun i=>F (f i)) A=sm F A:=by
  rw [zg2,zg2,← zml,zqJ R.perm]
def low (A s:Nat):Prop:=∀ i,s.testBit i=true→i<A
end LS
end Go.Proofs.YtepaekbjoombpaaGreatDoor
end
section
namespace Go.Proofs.YtepaekbjoombpaaGreatDoor
open Go Go.Proofs Go.Eng
set_option maxRecDepth 100000
set_option linter.unusedSimpArgs false
set_option linter.unusedVariables false
set_option linter.defProp false
theorem zge {n:Int}(h:InK .i64 n):IntKind.i64.wrap n=n:=zbv h
theorem zdr (a b:Nat)(ha:a<1000000)(hb:b<1000000):zan .and .i64 (a:Int) (b:Int)=((a&&&b:Nat):Int):=by
  have h1:a&&&b≤a:=Nat.and_le_left
  unfold zan
  show IntKind.i64.wrap ((BitVec.ofInt 64 (a:Int)&&&BitVec.ofInt 64 (b:Int)).toNat:Int)=_
  rw [BitVec.toNat_and,BitVec.ofInt_natCast,BitVec.ofInt_natCast,BitVec.toNat_ofNat,BitVec.toNat_ofNat,Nat.mod_eq_of_lt (by omega),Nat.mod_eq_of_lt (by omega)]
  exact zge (by rw [zf]; omega)
theorem zlJ (a b:Nat)(ha:a<2 ^ 20)(hb:b<2 ^ 20):zan .or .i64 (a:Int) (b:Int)=((a|||b:Nat):Int):=by
  have h1:a|||b<2 ^ 20:=Nat.or_lt_two_pow ha hb
  unfold zan
  show IntKind.i64.wrap ((BitVec.ofInt 64 (a:Int)|||BitVec.ofInt 64 (b:Int)).toNat:Int)=_
  rw [BitVec.toNat_or,BitVec.ofInt_natCast,BitVec.ofInt_natCast,BitVec.toNat_ofNat,BitVec.toNat_ofNat,Nat.mod_eq_of_lt (by omega),Nat.mod_eq_of_lt (by omega)]
  exact zge (by rw [zf]; omega)
theorem zqi (a b:Nat)(ha:a<1000000)(h:b&&&a=b):zan .andNot .i64 (a:Int) (b:Int)=((a - b:Nat):Int):=by
  have hb:b≤a:=by rw [← h]; exact Nat.and_le_right
  obtain⟨e1,e2⟩:=LS.zeE h
  have key:a&&&(2 ^ 64 - 1 - b)=a - b:=by
    apply Nat.eq_of_testBit_eq
    intro i
    have h3:(2 ^ 64 - 1 - b).testBit i=(decide (i<64)&&!b.testBit i):=by
      have:=Nat.testBit_two_pow_sub_succ (x:=b) (n:=64) (by omega) i
      rw [show 2 ^ 64 - 1 - b=2 ^ 64 - (b+1) by omega]
      exact this
    have h4:a.testBit i=(b.testBit i||(a - b).testBit i):=by
      conv=>lhs; rw [e1]
      rw [Nat.testBit_or]
    have h5:=LS.zbc e2 i
    have h6:a.testBit i=true→i<64:=fun hi=>by
      refine Classical.byContradiction fun hh=>?_
      have:a<2 ^ i:=Nat.lt_of_lt_of_le (by omega:a<2 ^ 64) (Nat.pow_le_pow_right (by decide) (by omega))
      rw [Nat.testBit_lt_two_pow this] at hi
      cases hi
    rw [Nat.testBit_and,h3]
    cases hb1:b.testBit i with
    | true=>
      cases hr:(a - b).testBit i with
      | true=>exact absurd ⟨hb1,hr⟩ h5
      | false=>simp
    | false=>
      rw [hb1,Bool.false_or] at h4
      cases hr:(a - b).testBit i with
      | true=>
        rw [hr] at h4
        simp [h4,h6 h4]
      | false=>
        rw [hr] at h4
        simp [h4]
  unfold zan
  show IntKind.i64.wrap ((BitVec.ofInt 64 (a:Int)&&&~~~BitVec.ofInt 64 (b:Int)).toNat:Int)=_
  rw [BitVec.toNat_and,BitVec.toNat_not,BitVec.ofInt_natCast,BitVec.ofInt_natCast,BitVec.toNat_ofNat,BitVec.toNat_ofNat,Nat.mod_eq_of_lt (by omega),Nat.mod_eq_of_lt (by omega),key]
  exact zge (by rw [zf]; omega)
theorem low_all:((List.range 256).all fun a=>a == 0||(List.range 8).any fun i=>decide (zan .and .i64 (a:Int) (-(a:Int))=((2 ^ i:Nat):Int))&&a.testBit i)=true:=by kernel_rfl
theorem zof {a:Nat}(h0:a≠0)(ha:a<256):∃ i,i<8∧zan .and .i64 (a:Int) (-(a:Int))=((2 ^ i:Nat):Int)∧a.testBit i=true:=by
  have h:=List.all_eq_true.1 low_all a (List.mem_range.2 ha)
  rw [Bool.or_eq_true,beq_iff_eq] at h
  rcases h with h | h
  · exact absurd h h0
  obtain⟨i,hi,h⟩:=List.any_eq_true.1 h
  rw [Bool.and_eq_true,decide_eq_true_eq] at h
  exact⟨i,List.mem_range.1 hi,h.1,h.2⟩
theorem zgZ (p i:Nat):p&&&2 ^ i=if p.testBit i then 2 ^ i else 0:=by
  apply Nat.eq_of_testBit_eq
  intro j
  rw [Nat.testBit_and,Nat.testBit_two_pow]
  by_cases h:i=j
  · subst h
    cases hp:p.testBit i <;> simp
  · cases hp:p.testBit i <;> simp [h,Nat.testBit_two_pow]
theorem zkV (a j:Nat)(ha:a<1000000):zan .and .i64 ((a:Int) / 2 ^ j) 1=if a.testBit j then 1 else 0:=by
  have h2:(a:Int) / 2 ^ j=((a / 2 ^ j:Nat):Int):=by
    rw [Int.natCast_ediv,Int.natCast_pow]; rfl
  have h3:a / 2 ^ j≤a:=Nat.div_le_self _ _
  have h4:=zdr (a / 2 ^ j) 1 (by omega) (by omega)
  rw [h2,show (1:Int)=((1:Nat):Int) from rfl,h4,Nat.and_one_is_mod]
  have h5:a.testBit j=decide (a / 2 ^ j % 2=1):=Nat.testBit_eq_decide_div_mod_eq
  rw [h5]
  by_cases h:a / 2 ^ j % 2=1
  · rw [h]; simp
  · have:a / 2 ^ j % 2=0:=by omega
    rw [this]; simp
theorem zfW {z:Nat→Prop}{s k j:Nat}(h:LS.Most z s k)(g:LS.Most z s j):k=j:=by
  have key:∀ {k j:Nat},LS.Most z s k→LS.Most z s j→k≤j:=fun {k j} h g=>by
    rcases h.is with e | e
    · omega
    · exact g.le _ e
  exact Nat.le_antisymm (key h g) (key g h)
end Go.Proofs.YtepaekbjoombpaaGreatDoor
end
section
namespace Go.Proofs.YtepaekbjoombpaaGreatDoor
open Go Go.Proofs Go.Eng Go.Run Tab
set_option maxRecDepth 100000
set_option linter.unusedSimpArgs false
set_option linter.unusedVariables false
set_option linter.defProp false
set_option maxHeartbeats 2000000
set_option linter.defProp false
def zeZ:=(And.intro (And.intro (And.intro @zeU @by3) (And.intro @ze7 @inf3)) (And.intro (And.intro @zhb @sz3) (And.intro @zbH (And.intro @Tryz.underlying40 @Tryz.underlying104))))
def G1Fs126:=(And.intro (And.intro @agg3 @zjP) (And.intro @inf3 @sz3))
theorem zpp {P:Program}{t el:TypeId}{len:Nat}(hu:P.underlying t=some (.array len el))(ha:aggT P el=some false)(hi:(P.info? el).isSome=true)(hs:szT P el=1){x i:Operand}{cs:List Value}{j:Nat}{u:Value}{ty:TypeId}{er:Eng.Env}{h:Eng.Heap}{K:Value→Eng.Heap→Prop}(hx:ev er x=.agg cs.toArray)(hj:ev er i=.int .i64 j)(hl:j<len)(hc:cs[j]?=some u)(H:K u h):zg P (.index t x i) ty er h K:=by
  obtain⟨inf,hinf⟩:=Option.isSome_iff_exists.1 hi
  have hsz:inf.size=1:=by simpa [szT,hinf] using hs
  obtain⟨v,h1,h2⟩:=zfR (P:=P) (t:=el) (cs:=cs.toArray) (off:=j*inf.size) (h:=h) (K:=fun v _=>v=u) (by
    rw [hsz,Nat.mul_one]
    simp only [zbU,ha,List.toList_toArray,hc,onV])
  subst h1
  refine zq rfl _ H fun w _=>?_
  have hr:(0:Int)≤(j:Int)∧(j:Int)<len:=⟨by omega,by omega⟩
  simp [execOp,Instr.index,hx,hj,asIntOf,run_underlying hu,hr,sizeOf,typeInfo,hinf,h2]
  intro hh; omega
theorem idsW_arr {cs:Array Value}{q:IntKind}{n:Int}{m:Nat}{el:TypeId}{h:Eng.Heap}{K:Value→Eng.Heap→Prop}{F:Prop}:idsW (.agg cs) (.int q n) (some (.array m el)) h K F=F:=by unfold idsW; rfl
def nz (l:List Nat):List Int:=l.map fun j:Nat=>(j:Int)
theorem zaf (l:List Nat):(nz l).length=l.length:=by simp [nz]
theorem zb9 {l:List Nat}{i:Nat}:(nz l).getD i 0=((l.getD i 0:Nat):Int):=by
  simp only [nz,List.getD_eq_getElem?_getD,List.getElem?_map]
  cases l[i]? <;> rfl
theorem zjz (l:List Nat)(i:Nat):nz l++[(i:Int)]=nz (l++[i]):=by simp [nz]
theorem ziQ {h:Eng.Heap}{er:Env}{ty:TypeId}{m0:Nat}{x y:Operand}{a b:Option Addr}{len cap m c:Nat}{xs ys:List Int}{K:Value→Eng.Heap→Prop}(hx:ev er x=.slice a len cap)(hy:ev er y=.slice b m c)(O:OwnI m0 h 3 a len cap xs)(h0h:m0≤h.size)(I:zJ h b m ys)(hb:len+m≤100000)
    (H:∀ a' cap' h',OwnI m0 h' 3 a' (len+m) cap' (xs++ys)→App h h' a a'→K (.slice a' (len+m) cap') h'):zg Tryz.prog (.call ⟨.builtin .append,#[x,y],#[40,40]⟩) ty er h K:=
  zmZ Tryz.underlying40 Tryz.underlying40 inf3 sz3 (by rw [by3]; decide) zbH hx hy O h0h I hb H
theorem has126 (s i:Nat)(hs:s<1000000)(hi:i<8)(h:Eng.Heap):zb Tryz.prog 126 #[.agg #[.int .i64 s],.int .i64 i] h (fun v h'=>v=.bool (s.testBit i)∧Ext h h'):=by
  (refine ze Tryz.func126 rfl bod126 ?_; simp only [Tryz.ntmps126,Tryz.results126,za,zh,splice,Value.cells,Value.oneCell',Nat.reduceAdd,Nat.reduceSub,Nat.reduceMul,Nat.reduceLeDiff,Int.reduceEq,Nat.reduceEqDiff,G1Fs126])
  have hb:=zkV s i hs
  simp only [Int.toNat_natCast,hb]
  refine⟨by omega,by simp [IntKind.bits]; omega,?_,(Ext.refl h).push _⟩
  cases s.testBit i <;> rfl
def opL8 (xs:List Int)(k:Nat):List Nat:=(List.range k).filter fun i=>!decide (xs.getD i 0=0)
theorem zgG (xs:List Int)(k:Nat):opL8 xs (k+1)=opL8 xs k++if xs.getD k 0=0 then [] else [k]:=by
  unfold opL8
  simp only [List.range_succ,List.filter_append,List.filter_cons,List.filter_nil]
  congr 1
  by_cases h:xs.getD k 0=0 <;> simp [h]
theorem zbx (xs:List Int)(k:Nat):(opL8 xs k).length≤k:=by
  have:=List.length_filter_le (fun i=>!decide (xs.getD i 0=0)) (List.range k)
  rwa [List.length_range] at this
theorem zlB (xs:List Int)(hl:xs.length=8)(h:Eng.Heap):zb Tryz.prog 97 #[.agg (ints xs).toArray] h (fun v h'=>(∃ a c,v=.slice a (opL8 xs 8).length c∧OwnI h.size h' 3 a (opL8 xs 8).length c (nz (opL8 xs 8)))∧Ext h h'):=by
  obtain⟨b0,b1,b2,b3,b4,b5,b6,b7,rfl⟩:∃ b0 b1 b2 b3 b4 b5 b6 b7:Int,xs=[b0,b1,b2,b3,b4,b5,b6,b7]:=by
    match xs,hl with
    | [b0,b1,b2,b3,b4,b5,b6,b7],_=>exact⟨b0,b1,b2,b3,b4,b5,b6,b7,rfl⟩
  obtain⟨xs,hxs⟩:∃ xs,xs=[b0,b1,b2,b3,b4,b5,b6,b7]:=⟨_,rfl⟩
  have h9:(ints xs).toArray=#[.int .i64 b0,.int .i64 b1,.int .i64 b2,.int .i64 b3,.int .i64 b4,.int .i64 b5,.int .i64 b6,.int .i64 b7]:=by rw [hxs]; rfl
  rw [← hxs] at hl ⊢
  rw [h9]
  (refine ze Tryz.func97 rfl bod97 ?_; simp only [Tryz.ntmps97,Tryz.results97,za,zh,splice,Value.cells,Value.oneCell',Nat.reduceAdd,Nat.reduceSub,Nat.reduceMul,Nat.reduceLeDiff,Int.reduceEq,Nat.reduceEqDiff,zeZ])
  have x0:Ext h (h.push (.cells #[.int .i64 b0,.int .i64 b1,.int .i64 b2,.int .i64 b3,.int .i64 b4,.int .i64 b5,.int .i64 b6,.int .i64 b7] 104)):=(Ext.refl h).push _
  generalize h.push (.cells #[.int .i64 b0,.int .i64 b1,.int .i64 b2,.int .i64 b3,.int .i64 b4,.int .i64 b5,.int .i64 b6,.int .i64 b7] 104)=hh at x0 ⊢
  refine zo [3,4,5,7,8,9,10,11,12,13,14,15,16,17] (fun e h'=>Ext hh h'∧∃ i:Nat,i≤8∧e 7=.int .i64 i∧∃ aO cO,e 3=.slice aO (opL8 xs i).length cO∧OwnI hh.size h' 3 aO (opL8 xs i).length cO (nz (opL8 xs i))) (fun e _=>match e 7 with | .int _ q=>8 - q.toNat | _=>0) ⟨Ext.refl _,0,by omega,rfl,none,0,rfl,OwnI.nil _ _ _⟩ ?_
  rintro e h1 ⟨x1,i,hi,he,aO,cO,heO,OO⟩
  by_cases hi8:i<8
  · have hlt:(i:Int)<8:=by omega
    have meas:8 - ((i:Int)+1).toNat<8 - (i:Int).toNat:=by omega
    have ce:(ints xs)[i]?=some (.int .i64 (xs.getD i 0)):=ints_getElem? _ _ (by omega)
    have hx:(Value.agg #[.int .i64 b0,.int .i64 b1,.int .i64 b2,.int .i64 b3,.int .i64 b4,.int .i64 b5,.int .i64 b6,.int .i64 b7])=.agg (ints xs).toArray:=by rw [h9]
    have nx:=zgG xs i
    have le:=zbx xs i
    simp only [he,heO,hlt,idsW_arr,decide_true,Int.toNat_natCast,za,Value.cells,Value.oneCell',Nat.reduceAdd,Nat.reduceSub,Nat.reduceMul,Nat.reduceLeDiff,Int.reduceEq,Nat.reduceEqDiff,zeZ]
    refine zpp (j:=i) Tryz.underlying104 agg2 inf2 sz2 hx rfl (by omega) ce ?_
    by_cases h0:xs.getD i 0=0
    · rw [if_pos h0,List.append_nil] at nx
      simp only [he,heO,h0,decide_true,Bool.not_true,za,Value.cells,Value.oneCell',Nat.reduceAdd,Nat.reduceSub,Nat.reduceMul,Nat.reduceLeDiff,Int.reduceEq,Nat.reduceEqDiff,zeZ]
      refine⟨by rw [zf]; omega,zi (by kernel_rfl) ⟨x1,i+1,by omega,rfl,aO,cO,by rw [nx]; rfl,by rw [nx]; exact OO⟩ meas⟩
    · rw [if_neg h0] at nx
      simp only [he,heO,h0,decide_false,Bool.not_false,za,Value.cells,Value.oneCell',Nat.reduceAdd,Nat.reduceSub,Nat.reduceMul,Nat.reduceLeDiff,Int.reduceEq,Nat.reduceEqDiff,zeZ]
      have OO':=OO.ext ((Ext.refl h1).push (.cells #[.int .i64 (i:Int)] 3))
      refine ziQ (m0:=hh.size) (len:=(opL8 xs i).length) (m:=1) (ys:=[(i:Int)]) rfl rfl OO' (by rw [zaa]; have:=x1.size; omega) (zaB zu) (by omega) fun a' cap' h5 O5 A5=>?_
      have ell:(opL8 xs i).length+1=(opL8 xs (i+1)).length:=by rw [nx]; simp
      rw [zjz,← nx,ell] at O5
      simp only [he,za,Value.cells,Value.oneCell',Nat.reduceAdd,Nat.reduceSub,Nat.reduceMul,Nat.reduceLeDiff,Int.reduceEq,Nat.reduceEqDiff,zeZ]
      refine⟨by rw [zf]; omega,zi (by kernel_rfl) ⟨A5.extN OO' (x1.push _) (Nat.le_refl _),i+1,by omega,rfl,a',cap',by rw [← ell]; rfl,O5⟩ meas⟩
  obtain rfl:i=8:=by omega
  simp only [he,heO,show ¬ (((8:Nat):Int)<8) by omega,decide_false,za,Value.cells,Value.oneCell',Nat.reduceAdd,Nat.reduceSub,Nat.reduceMul,Nat.reduceLeDiff,Int.reduceEq,Nat.reduceEqDiff,zeZ]
  exact⟨⟨aO,cO,rfl,OO.mono x0.size⟩,x0.trans x1⟩
theorem more159 (a b:Option Addr)(n c m d:Nat)(h:Eng.Heap):zb Tryz.prog 159 #[.slice a n c,.slice b m d] h (fun v h'=>v=.bool (decide (m<n))∧h'=h):=by
  (refine ze Tryz.func159 rfl bod159 ?_; simp only [Tryz.ntmps159,Tryz.results159,za,zh,splice,Value.cells,Value.oneCell',Nat.reduceAdd,Nat.reduceSub,Nat.reduceMul,Nat.reduceLeDiff,Int.reduceEq,Nat.reduceEqDiff,Tryz.underlying163])
  congr 1
  rw [decide_eq_decide]; omega
end Go.Proofs.YtepaekbjoombpaaGreatDoor
end
section
set_option linter.unusedVariables false
set_option linter.unusedSimpArgs false
namespace Go.Eng
open Go
attribute [local semireducible] zg opQS zbh setD WP
section fork
variable {P:Program} {l:Option Nat} {R:Heap→Heap→Prop} {G:Nat→Bool}
variable {all:List Oper} {rest rs:List (Nat × Nat)} {k:Cont} {e:Env} {d:List Deferred} {h:Heap} {dst:Option Tmp} {op:Op} {ty:TypeId} {pos:String} {after:Array Edge} {i x y:Nat}
end fork
section vals
variable {P:Program} {h:Heap} {er:Env} {ty:TypeId} {h0:Nat}
theorem zf0 {t tn el:TypeId}{z:Value}{s:Nat}(hu:P.underlying t=some (.slice el))(hun:P.underlying tn=some (.int .i64))(hi:(P.info? el).isSome=true)(hsz:szT P el=s)(hz:zR P el=some z)(hzs:z.cells.size=s)(hs:0<s)
    {x y:Operand} {a:Option Addr} {len cap k:Nat} {olds:List Value} {K:Value→Heap→Prop} (hx:ev er x=.slice a len cap) (hy:ev er y=.int .i64 (k:Nat)) (I:Row h a olds) (hol:olds.length=len*s) (hk:0<k) (hg:cap<len+k) (hb:len+k≤1000000) (hby:(len+k)*zaQ P el≤1000000) (h0h:h0≤h.size)
    (H:∀ cap' h' zs,zs.length=k*s→OwnV h0 h' el s (some ⟨h.size,0,none⟩) (len+k) cap' (olds++zs)→Ext h h'→K (.slice (some ⟨h.size,0,none⟩) (len+k) cap') h'):zg P (.call ⟨.builtin .append,#[x,y],#[t,tn]⟩) ty er h K:=by
  unfold zg
  refine And.intro rfl fun w hw=>?_
  subst hw
  obtain⟨i,hi⟩:=Option.isSome_iff_exists.1 hi
  have hsz:i.size=s:=by simpa [szT,hi] using hsz
  have hz:i.zero=some z:=by simpa [zR,hi] using hz
  have hby:(len+k)*i.bytes≤1000000:=by simpa [zaQ,hi] using hby
  have hkb:k*i.bytes≤(len+k)*i.bytes:=Nat.mul_le_mul_right _ (by omega)
  have hf:(Builtin.firstCells i.size len (.slice a len cap)).run P w.drew=.ok olds.toArray w.drew:=by
    have:=ziI (P:=P) (w:=w.drew) (c:=cap) (k:=len) (s:=s) (b:=a) (m:=len) (vs:=olds) I hol (Nat.le_refl _)
    rw [List.take_of_length_le (by omega)] at this
    rw [hsz]
    exact this
  have g1:=Lib.run_append_grow_zeros (P:=P) w t tn ty el i z .i64 .i64 hu hun hi hz a len cap olds hf k hk (by omega) hg (by omega) (by omega) (growslice_fits (bytes:=i.bytes) hg (by omega))
  have hge:=grownCap_ge w (len+k) cap el
  have hargs:#[x,y].map (ev er)=#[.slice a len cap,.int .i64 (k:Nat)]:=by simp [hx,hy]
  have key:∀ v w',(Builtin.append_ #[t,tn] ty #[.slice a len cap,.int .i64 (k:Nat)]).run P w=.ok v w'→Rest w w'→K v w'.heap →
      zaS P w K ((execOp (ev er) { dst := none, op := .call ⟨.builtin .append, #[x, y], #[t, tn]⟩, type := ty, pos := "", after := #[], guard := none }).run P w) := by
    intro v w' h1 h2 h3
    have : (execOp (ev er) { dst := none, op := .call ⟨.builtin .append, #[x, y], #[t, tn]⟩, type := ty, pos := "", after := #[], guard := none }).run P w = .ok (.value v) w' := by
      simp only [execOp,resolve,invoke,builtin,Sem.run_bind,Sem.run_pure,Result.andThen_ok,hargs,h1]
    rw [this]
    exact⟨h3,h2⟩
  have hzl:(Builtin.zeroCells z.cells k).size=k*s:=by rw [zc5,hzs]
  refine key _ _ g1 ⟨rfl,rfl,rfl⟩ (H (grownCap w (len+k) cap el) _ (Builtin.zeroCells z.cells k).toList (by simpa using hzl) ⟨by rw [List.length_append,hol,Array.length_toList,hzl,Nat.add_mul],.inr ⟨w.heap.size,_,rfl,h0h,zu,?_,hge,?_⟩⟩ ((Ext.refl _).push _))
  · have e1:(len+k)*s+(grownCap w (len+k) cap el - (len+k))*s=grownCap w (len+k) cap el*s:=by rw [← Nat.add_mul]; congr 1; omega
    simp only [Array.size_append,List.size_toArray,zc5,hzs,hol,Nat.add_mul] at e1 ⊢
    omega
  · simp only [Array.toList_append,List.toList_toArray]
    rw [List.take_append_of_le_length (by simp [hol,hzl,Nat.add_mul]),List.take_of_length_le (by simp [hol,hzl,Nat.add_mul])]
end vals
end Go.Eng
end
section
namespace Go.Proofs.YtepaekbjoombpaaGreatDoor
open Go Go.Proofs Go.Eng Go.Run Tab
set_option maxRecDepth 100000
set_option linter.unusedSimpArgs false
set_option linter.unusedVariables false
set_option linter.defProp false
set_option maxHeartbeats 2000000
set_option linter.defProp false
def zdV:=(And.intro (And.intro @agg163 @by163) (And.intro @ziK (And.intro @sz163 @Tryz.underlying189)))
theorem zqD {h:Eng.Heap}{a:Option Addr}{n c lo hi:Nat}{vs:List Value}(I:Row h a vs)(hl:vs.length=n)(h1:lo≤hi)(h2:hi≤n)(h3:n≤c):Row h (if (c:Int)=(lo:Int) then a else eltP a lo) ((vs.drop lo).take (hi - lo)):=by
  split
  · rename_i he
    have:hi - lo=0:=by omega
    rw [this]
    exact .inl (by simp)
  · exact I.sub lo (hi - lo) (by omega)
abbrev Hd:=Option Addr × Nat × Nat
def hdV (t:Hd):Value:=.slice t.1 t.2.1 t.2.2
def hdsV (T:List Hd):List Value:=T.map hdV
theorem zF (T:List Hd):(hdsV T).length=T.length:=by simp [hdsV]
theorem zb2 {h:Eng.Heap}{a:Option Addr}{T:List Hd}(R:Row h a (hdsV T)){j:Nat}(hj:j<T.length):zT h (eltP a j)=some (.slice T[j].1 T[j].2.1 T[j].2.2):=by
  have:=R.cell (j:=j) (by rw [zF]; exact hj)
  rw [this]
  simp [hdsV,hdV]
def upH (o x:Hd):Hd:=if o.2.1<x.2.1 then x else o
theorem zh1:∀ (l:List Hd) (o:Hd),o.2.1≤(l.foldl upH o).2.1∧(∀ x∈l,x.2.1≤(l.foldl upH o).2.1)∧(l.foldl upH o=o∨l.foldl upH o∈l)
  | [],o=>⟨Nat.le_refl _,by simp,.inl rfl⟩
  | y::l,o=>by
    obtain⟨h1,h2,h3⟩:=zh1 l (upH o y)
    have ho:o.2.1≤(upH o y).2.1∧y.2.1≤(upH o y).2.1:=by unfold upH; split <;> omega
    have hy:upH o y=o∨upH o y=y:=by unfold upH; split <;> simp
    simp only [List.foldl_cons,List.mem_cons]
    refine⟨by omega,fun x hx=>?_,?_⟩
    · rcases hx with rfl | hx
      · omega
      · exact h2 x hx
    · rcases h3 with h3 | h3
      · rw [h3]; rcases hy with hy | hy
        · exact .inl hy
        · exact .inr (.inl hy)
      · exact .inr (.inr h3)
def bstH (T:List Hd):Hd:=(T.drop 1).foldl upH (T.getD 0 (none,0,0))
theorem bstH_ge {T:List Hd}{x:Hd}(hx:x∈T):x.2.1≤(bstH T).2.1:=by
  cases T with
  | nil=>cases hx
  | cons y l=>
    obtain⟨h1,h2,_⟩:=zh1 l y
    show x.2.1≤(l.foldl upH y).2.1
    rcases List.mem_cons.1 hx with rfl | hx
    · exact h1
    · exact h2 x hx
theorem bstH_mem {T:List Hd}(h:0<T.length):bstH T∈T:=by
  cases T with
  | nil=>simp at h
  | cons y l=>
    obtain⟨_,_,h3⟩:=zh1 l y
    show l.foldl upH y∈_
    rcases h3 with h3 | h3
    · rw [h3]; simp
    · exact List.mem_cons_of_mem _ h3
theorem best158 (a:Option Addr)(n c:Nat)(T:List Hd)(h:Eng.Heap)(R:Row h a (hdsV T))(hn:n=T.length)(h1:0<n)(hc:n≤c)(hl:n≤1000000) :
    zb Tryz.prog 158 #[.slice a n c,.func (.func 159) #[] #[]] h (fun v h'=>v=hdV (bstH T)∧h'=h):=by
  (refine ze Tryz.func158 rfl bod158 ?_; simp only [Tryz.ntmps158,Tryz.results158,za,zh,splice,Value.cells,Value.oneCell',Nat.reduceAdd,Nat.reduceSub,Nat.reduceMul,Nat.reduceLeDiff,Int.reduceEq,Nat.reduceEqDiff,zdV])
  have c0:=zb2 R (j:=0) (by omega)
  have hsm:=R.isSome (by rw [zF]; omega)
  have hsl:=zqD (lo:=1) (hi:=n) (c:=c) R (by rw [zF,hn]) (by omega) (Nat.le_refl _) hc
  have e1:((n:Int) - 1).toNat=n - 1:=by omega
  have e2:((c:Int) - 1).toNat=c - 1:=by omega
  have ht:((hdsV T).drop 1).take (n - 1)=hdsV (T.drop 1):=by
    rw [List.take_of_length_le (by rw [List.length_drop,zF]; omega)]
    simp [hdsV]
  rw [ht] at hsl
  obtain⟨sl,hsle⟩:∃ sl,sl=(if (c:Int)=((1:Nat):Int) then a else eltP a 1):=⟨_,rfl⟩
  have hsle2:(if (c:Int)=1 then a else eltP a 1)=sl:=by rw [hsle]; rfl
  rw [← hsle] at hsl
  have ht0:T.getD 0 (none,0,0)=T[0]:=by rw [List.getD_eq_getElem?_getD,List.getElem?_eq_getElem (by omega)]; rfl
  rw [← ht0] at c0
  simp only [c0,e1,e2,hsle2,za,Value.cells,Value.oneCell',Nat.reduceAdd,Nat.reduceSub,Nat.reduceMul,Nat.reduceLeDiff,Int.reduceEq,Nat.reduceEqDiff,zdV]
  refine⟨⟨by omega,by omega⟩,hsm,by omega,by omega,by omega,by omega,?_⟩
  refine zo [5,7,14,15,16,17,18,19,20,21,22,23] (fun e h'=>h'=h∧∃ i:Nat,i≤n - 1∧e 14=.int .i64 i∧∃ t:Hd,e 5=.slice t.1 t.2.1 t.2.2∧t=((T.drop 1).take i).foldl upH (T.getD 0 (none,0,0))) (fun e _=>match e 14 with | .int _ q=>(n - 1) - q.toNat | _=>0) ⟨rfl,0,by omega,rfl,T.getD 0 (none,0,0),rfl,rfl⟩ ?_
  rintro e h' ⟨rfl,i,hi,he,t,he5,htT⟩
  have hdl:(T.drop 1).length=n - 1:=by simp; omega
  by_cases hil:i<(T.drop 1).length
  · have hlt:(i:Int)<((n - 1:Nat):Int):=by omega
    have meas:(n - 1) - ((i:Int)+1).toNat<(n - 1) - (i:Int).toNat:=by omega
    have c1:=zb2 hsl hil
    have hss:=hsl.isSome (by rw [zF]; omega)
    obtain⟨u,hu⟩:∃ u,u=(T.drop 1)[i]:=⟨_,rfl⟩
    rw [← hu] at c1
    have hnx:((T.drop 1).take (i+1)).foldl upH (T.getD 0 (none,0,0))=upH t u:=by
      rw [List.take_add_one,List.getElem?_eq_getElem hil,List.foldl_append,← htT,← hu]
      rfl
    simp only [he,he5,hlt,c1,decide_true,Int.toNat_natCast,za,Value.cells,Value.oneCell',Nat.reduceAdd,Nat.reduceSub,Nat.reduceMul,Nat.reduceLeDiff,Int.reduceEq,Nat.reduceEqDiff,zdV]
    refine⟨by omega,hss,?_⟩
    refine zb.mono (more159 _ _ _ _ _ _ h') ?_
    rintro v h2 ⟨rfl,rfl⟩
    by_cases hm:t.2.1<u.2.1
    · simp only [hm,he,decide_true,za,Value.cells,Value.oneCell',Nat.reduceAdd,Nat.reduceSub,Nat.reduceMul,Nat.reduceLeDiff,Int.reduceEq,Nat.reduceEqDiff,zdV]
      exact⟨by rw [zf]; omega,zi (by kernel_rfl) ⟨rfl,i+1,by omega,rfl,u,rfl,by rw [hnx,upH,if_pos hm]⟩ meas⟩
    · simp only [hm,he,decide_false,za,Value.cells,Value.oneCell',Nat.reduceAdd,Nat.reduceSub,Nat.reduceMul,Nat.reduceLeDiff,Int.reduceEq,Nat.reduceEqDiff,zdV]
      exact⟨by rw [zf]; omega,zi (by kernel_rfl) ⟨rfl,i+1,by omega,rfl,t,rfl,by rw [hnx,upH,if_neg hm]⟩ meas⟩
  · obtain rfl:i=n - 1:=by omega
    simp only [he,he5,show ¬ (((n - 1:Nat):Int)<((n - 1:Nat):Int)) by omega,decide_false,za,Value.cells,Value.oneCell',Nat.reduceAdd,Nat.reduceSub,Nat.reduceMul,Nat.reduceLeDiff,Int.reduceEq,Nat.reduceEqDiff,zdV]
    rw [List.take_of_length_le (by omega)] at htT
    rw [htT]
    first | exact⟨rfl,trivial⟩ | exact⟨rfl,rfl⟩ | rfl
end Go.Proofs.YtepaekbjoombpaaGreatDoor
end
section
namespace Go.Proofs.YtepaekbjoombpaaGreatDoor
open Go Go.Proofs Go.Eng Go.Run Tab
set_option maxRecDepth 100000
set_option linter.unusedSimpArgs false
set_option linter.unusedVariables false
set_option linter.defProp false
set_option maxHeartbeats 2000000
set_option linter.defProp false
def zbO:=(And.intro (And.intro @agg163 (And.intro @by163 @ziK)) (And.intro @sz163 (And.intro @Tryz.underlying163 @Tryz.underlying189)))
def zfk:=(And.intro (And.intro @zik @zgR) (And.intro @zjb @Tryz.underlying163))
theorem zfp {vs:List Value}{u:Option TypeDesc}{h:Eng.Heap}{K:Value→Eng.Heap→Prop}{F:Prop}:bltW .cap vs u h K F=F:=by
  unfold bltW
  split <;> first | rfl | (rename_i hh; cases hh) | simp_all
theorem capG {e:Env}{h:Eng.Heap}{ty t el:TypeId}(hu:Tryz.prog.underlying t=some (.slice el)){x:Operand}{a:Option Addr}{n c:Nat}(hx:ev e x=.slice a n c){K:Value→Eng.Heap→Prop}(H:K (.int .i64 c) h):zg Tryz.prog (.call ⟨.builtin .cap,#[x],#[t]⟩) ty e h K:=
  zq rfl _ H fun w _=>by simp [execOp,resolve,invoke,builtin,hx,Builtin.cap_,goInt,run_underlying hu]
theorem app163 {h:Eng.Heap}{er:Env}{ty:TypeId}{m0:Nat}{x y:Operand}{a b:Option Addr}{len cap m c:Nat}{p q:List Nat}{K:Value→Eng.Heap→Prop}(hx:ev er x=.slice a len cap)(hy:ev er y=.slice b m c)(O:OwnV m0 h 162 1 a len cap (ints (nz p)))(h0h:m0≤h.size)(I:Row h b (ints (nz q)))(hm:m=q.length)(hb:len+m≤1000)
    (H:∀ a' cap' h',OwnV m0 h' 162 1 a' (len+m) cap' (ints (nz (p++q)))→App h h' a a'→K (.slice a' (len+m) cap') h'):zg Tryz.prog (.call ⟨.builtin .append,#[x,y],#[163,163]⟩) ty er h K:=
  zcO Tryz.underlying163 Tryz.underlying163 zgR zjb zhp (by rfl) hx hy O h0h I (by rw [zl,zaf]; omega) (fun u hu=>by
    obtain⟨x,_,rfl⟩:=List.mem_map.1 hu
    rfl) (by omega) (by rw [zik]; omega) fun a' cap' h' O' A'=>H a' cap' h' (by
      have e:ints (nz p)++ints (nz q)=ints (nz (p++q)):=by simp [ints,nz]
      rw [← e]; exact O') A'
theorem grow183 (k:Nat)(hk:0<k)(hk2:k≤1000)(h:Eng.Heap):zb Tryz.prog 183 #[.slice none 0 0,.int .i64 k] h (fun v h'=>(∃ a cap,v=.slice a 0 cap∧OwnV h.size h' 162 1 a 0 cap (ints (nz [])))∧Ext h h'):=by
  have h0:¬ ((k:Nat):Int)<0:=by omega
  have h1:(0:Int)<((k:Nat):Int):=by omega
  have h2:(k:Int) - 0=(k:Nat):=by omega
  (refine ze Tryz.func183 rfl bod183 ?_; simp only [Tryz.ntmps183,Tryz.results183,za,zh,splice,Value.cells,Value.oneCell',Nat.reduceAdd,Nat.reduceSub,Nat.reduceMul,Nat.reduceLeDiff,Int.reduceEq,Nat.reduceEqDiff,zfk])
  simp only [h0,h1,h2,decide_true,decide_false,za,Value.cells,Value.oneCell',Nat.reduceAdd,Nat.reduceSub,Nat.reduceMul,Nat.reduceLeDiff,Int.reduceEq,Nat.reduceEqDiff,zfk]
  rw [zfp]
  refine capG Tryz.underlying163 rfl ?_
  have h3:(((0:Nat):Int) - ((0:Nat):Int))=0:=rfl
  have h4:((0:Nat):Int)=0:=rfl
  simp only [h3,h2,h1,decide_true,za,Value.cells,Value.oneCell',Nat.reduceAdd,Nat.reduceSub,Nat.reduceMul,Nat.reduceLeDiff,Int.reduceEq,Nat.reduceEqDiff,zfk]
  refine⟨by rw [zf]; omega,by rw [zf]; omega,?_⟩
  rw [zfp]
  refine capG Tryz.underlying163 rfl ?_
  simp only [h3,h4,h2,h1,decide_true,za,Value.cells,Value.oneCell',Nat.reduceAdd,Nat.reduceSub,Nat.reduceMul,Nat.reduceLeDiff,Int.reduceEq,Nat.reduceEqDiff,zfk]
  refine⟨by omega,by omega,by omega,by omega,?_⟩
  refine zf0 (h0:=h.size) (s:=1) (len:=0) (cap:=0) (k:=k) (olds:=[]) Tryz.underlying163 Tryz.underlying3 zgR zjb zhp rfl (by omega) rfl rfl (.inl rfl) rfl hk (by omega) (by omega) (by rw [zik]; omega) (Nat.le_refl _) fun c2 h2' zs hz O x=>?_
  have hcap:=O.cap
  simp only [h3,h4,za,Value.cells,Value.oneCell',Nat.reduceAdd,Nat.reduceSub,Nat.reduceMul,Nat.reduceLeDiff,Int.reduceEq,Nat.reduceEqDiff,zfk]
  refine⟨by omega,by omega,by omega,by omega,⟨some ⟨h.size,0,none⟩,c2,by simp,?_⟩,x⟩
  rcases O.ok with⟨e,_⟩ | ⟨g,cur,e,o1,o2,o3,o4,o5⟩
  · cases e
  · exact⟨by simp [nz,ints],.inr ⟨g,cur,e,o1,o2,o3,by omega,by simp [nz,ints]⟩⟩
theorem zrA (b:Option Addr)(c:Nat)(a1:Option Addr)(n1 c1:Nat)(p:List Nat)(a2:Option Addr)(n2 c2:Nat)(q:List Nat)(h:Eng.Heap)(R:Row h b (hdsV [(a1,n1,c1),(a2,n2,c2)]))(R1:Row h a1 (ints (nz p)))(hn1:n1=p.length)(R2:Row h a2 (ints (nz q)))(hn2:n2=q.length)(h1:0<n1)(hl:n1+n2≤900) :
    zb Tryz.prog 157 #[.slice b 2 c] h (fun v h'=>(∃ a cap,v=.slice a (n1+n2) cap∧OwnV 0 h' 162 1 a (n1+n2) cap (ints (nz (p++q))))∧Ext h h'):=by
  have hc0:=zb2 R (j:=0) (by simp)
  have hc1:=zb2 R (j:=1) (by simp)
  have hsm:=R.isSome (by simp [hdsV])
  simp only [List.getElem_cons_zero,List.getElem_cons_succ] at hc0 hc1
  (refine ze Tryz.func157 rfl bod157 ?_; simp only [Tryz.ntmps157,Tryz.results157,za,zh,splice,Value.cells,Value.oneCell',Nat.reduceAdd,Nat.reduceSub,Nat.reduceMul,Nat.reduceLeDiff,Int.reduceEq,Nat.reduceEqDiff,zbO])
  refine zo [3,5,11,12,13,14,15,16,17,18,19,20,21,22] (fun e h'=>h'=h∧((e 11=.int .i64 0∧e 3=.int .i64 0)∨(e 11=.int .i64 1∧e 3=.int .i64 n1)∨(e 11=.int .i64 2∧e 3=.int .i64 ((n1+n2:Nat):Int)))) (fun e _=>match e 11 with | .int _ q=>2 - q.toNat | _=>0) ⟨rfl,.inl ⟨rfl,rfl⟩⟩ ?_
  rintro e h' ⟨rfl,⟨he,he3⟩ | ⟨he,he3⟩ | ⟨he,he3⟩⟩
  · have t0:(0:Int)<((2:Nat):Int):=by decide
    have t1:¬ (0:Int)+(n1:Nat)<0:=by omega
    have t2:((0:Int)).toNat=0:=rfl
    simp only [he,he3,t0,t1,t2,hc0,decide_true,decide_false,za,Value.cells,Value.oneCell',Nat.reduceAdd,Nat.reduceSub,Nat.reduceMul,Nat.reduceLeDiff,Int.reduceEq,Nat.reduceEqDiff,zbO]
    refine⟨by omega,hsm,by rw [zf]; omega,by rw [zf]; omega,zi (by kernel_rfl) ⟨rfl,.inr (.inl ⟨rfl,?_⟩)⟩ ?_⟩
    · show Value.int .i64 (0+(n1:Int))=_
      rw [Int.zero_add]
    · show 2 - (0+1:Int).toNat<2 - (0:Int).toNat
      decide
  · have t0:(1:Int)<((2:Nat):Int):=by decide
    have t1:¬ ((n1:Nat):Int)+(n2:Nat)<0:=by omega
    have t2:((1:Int)).toNat=1:=rfl
    simp only [he,he3,t0,t1,t2,hc1,decide_true,decide_false,za,Value.cells,Value.oneCell',Nat.reduceAdd,Nat.reduceSub,Nat.reduceMul,Nat.reduceLeDiff,Int.reduceEq,Nat.reduceEqDiff,zbO]
    refine⟨by omega,hsm,by rw [zf]; omega,by rw [zf]; omega,zi (by kernel_rfl) ⟨rfl,.inr (.inr ⟨rfl,?_⟩)⟩ ?_⟩
    · show Value.int .i64 ((n1:Int)+(n2:Int))=_
      congr 1
    · show 2 - (1+1:Int).toNat<2 - (1:Int).toNat
      decide
  have t0:¬ (2:Int)<((2:Nat):Int):=by decide
  simp only [he,he3,t0,decide_false,za,Value.cells,Value.oneCell',Nat.reduceAdd,Nat.reduceSub,Nat.reduceMul,Nat.reduceLeDiff,Int.reduceEq,Nat.reduceEqDiff,zbO]
  refine zb.mono (grow183 (n1+n2) (by omega) (by omega) h') ?_
  rintro v h1' ⟨⟨a3,c3,rfl,O3⟩,x3⟩
  have s3:=x3.size
  simp only [za,Value.cells,Value.oneCell',Nat.reduceAdd,Nat.reduceSub,Nat.reduceMul,Nat.reduceLeDiff,Int.reduceEq,Nat.reduceEqDiff,zbO]
  refine zo [6,8,27,28,29,30,31,32,33,34] (fun e h''=>Ext h' h''∧((e 27=.int .i64 0∧∃ a4 c4,e 6=.slice a4 0 c4∧OwnV h'.size h'' 162 1 a4 0 c4 (ints (nz [])))∨(e 27=.int .i64 1∧∃ a4 c4,e 6=.slice a4 n1 c4∧OwnV h'.size h'' 162 1 a4 n1 c4 (ints (nz p)))∨(e 27=.int .i64 2∧∃ a4 c4,e 6=.slice a4 (n1+n2) c4∧OwnV h'.size h'' 162 1 a4 (n1+n2) c4 (ints (nz (p++q)))))) (fun e _=>match e 27 with | .int _ q=>2 - q.toNat | _=>0) ⟨x3,.inl ⟨rfl,a3,c3,rfl,O3⟩⟩ ?_
  rintro e4 h4 ⟨x4,⟨he4,a4,c4,he6,O4⟩ | ⟨he4,a4,c4,he6,O4⟩ | ⟨he4,a4,c4,he6,O4⟩⟩
  · have u0:(0:Int)<((2:Nat):Int):=by decide
    have u2:((0:Int)).toNat=0:=rfl
    have d0:=zb2 (R.ext x4) (j:=0) (by simp)
    simp only [List.getElem_cons_zero] at d0
    simp only [he4,he6,u0,u2,d0,decide_true,za,Value.cells,Value.oneCell',Nat.reduceAdd,Nat.reduceSub,Nat.reduceMul,Nat.reduceLeDiff,Int.reduceEq,Nat.reduceEqDiff,zbO]
    refine⟨by omega,hsm,?_⟩
    refine app163 (m0:=h'.size) (len:=0) (p:=[]) rfl rfl O4 x4.size (R1.ext x4) hn1 (by omega) fun a5 c5 h5 O5 A5=>?_
    rw [Nat.zero_add,List.nil_append] at O5
    rw [Nat.zero_add]
    simp only [he4,za,Value.cells,Value.oneCell',Nat.reduceAdd,Nat.reduceSub,Nat.reduceMul,Nat.reduceLeDiff,Int.reduceEq,Nat.reduceEqDiff,zbO]
    refine⟨by rw [zf]; omega,zi (by kernel_rfl) ⟨A5.extV O4 x4 (Nat.le_refl _),.inr (.inl ⟨rfl,a5,c5,rfl,O5⟩)⟩ ?_⟩
    show 2 - (0+1:Int).toNat<2 - (0:Int).toNat
    decide
  · have u0:(1:Int)<((2:Nat):Int):=by decide
    have u2:((1:Int)).toNat=1:=rfl
    have d1:=zb2 (R.ext x4) (j:=1) (by simp)
    simp only [List.getElem_cons_zero,List.getElem_cons_succ] at d1
    simp only [he4,he6,u0,u2,d1,decide_true,za,Value.cells,Value.oneCell',Nat.reduceAdd,Nat.reduceSub,Nat.reduceMul,Nat.reduceLeDiff,Int.reduceEq,Nat.reduceEqDiff,zbO]
    refine⟨by omega,hsm,?_⟩
    refine app163 (m0:=h'.size) (len:=n1) (p:=p) rfl rfl O4 x4.size (R2.ext x4) hn2 (by omega) fun a5 c5 h5 O5 A5=>?_
    simp only [he4,za,Value.cells,Value.oneCell',Nat.reduceAdd,Nat.reduceSub,Nat.reduceMul,Nat.reduceLeDiff,Int.reduceEq,Nat.reduceEqDiff,zbO]
    refine⟨by rw [zf]; omega,zi (by kernel_rfl) ⟨A5.extV O4 x4 (Nat.le_refl _),.inr (.inr ⟨rfl,a5,c5,rfl,O5⟩)⟩ ?_⟩
    show 2 - (1+1:Int).toNat<2 - (1:Int).toNat
    decide
  · have u0:¬ (2:Int)<((2:Nat):Int):=by decide
    simp only [he4,he6,u0,decide_false,za,Value.cells,Value.oneCell',Nat.reduceAdd,Nat.reduceSub,Nat.reduceMul,Nat.reduceLeDiff,Int.reduceEq,Nat.reduceEqDiff,zbO]
    exact⟨⟨a4,c4,rfl,O4.mono (Nat.zero_le _)⟩,x4⟩
end Go.Proofs.YtepaekbjoombpaaGreatDoor
end
section
set_option linter.unusedVariables false
set_option linter.unusedSimpArgs false
namespace Go.Eng
open Go
structure Chg (h h':Heap)(b:Nat):Prop where
  size:h.size≤h'.size
  old:∀ c,c<h.size→c≠b→h'[c]?=h[c]?
theorem Chg.refl (h:Heap)(b:Nat):Chg h h b:=⟨Nat.le_refl _,fun _ _ _=>rfl⟩
theorem Chg.of_ext {h h':Heap}(x:Ext h h')(b:Nat):Chg h h' b:=⟨x.size,fun c hc _=>x.old c hc⟩
theorem Chg.trans {h h' h'':Heap}{b:Nat}(x:Chg h h' b)(y:Chg h' h'' b):Chg h h'' b:=⟨Nat.le_trans x.size y.size,fun c hc hne=>(y.old c (Nat.lt_of_lt_of_le hc x.size) hne).trans (x.old c hc hne)⟩
theorem Chg.get {h h':Heap}{b c:Nat}{o:Obj}(x:Chg h h' b)(hc:h[c]?=some o)(hne:c≠b):h'[c]?=some o:=(x.old c (zt hc) hne).trans hc
theorem Chg.upd {h h' h'':Heap}{b:Nat}(x:Chg h h' b)(u:Upd h' h'' b):Chg h h'' b:=⟨by rw [u.size]; exact x.size,fun c hc hne=>(u.old c hne).trans (x.old c hc hne)⟩
theorem Chg.upd_new {h h' h'':Heap}{b c:Nat}(x:Chg h h' b)(u:Upd h' h'' c)(hc:h.size≤c):Chg h h'' b:=⟨by rw [u.size]; exact x.size,fun i hi hne=>(u.old i (by omega)).trans (x.old i hi hne)⟩
theorem Chg.ext {h h' h'':Heap}{b:Nat}(x:Chg h h' b)(y:Ext h' h''):Chg h h'' b:=x.trans (.of_ext y b)
theorem Chg.push {h h':Heap}{b:Nat}(x:Chg h h' b)(o:Obj):Chg h (h'.push o) b:=x.ext ((Ext.refl h').push o)
theorem Chg.fresh {h0 h h':Heap}{b:Nat}(x:Ext h0 h)(c:Chg h h' b)(hb:h0.size≤b):Ext h0 h':=⟨Nat.le_trans x.size c.size,fun i hi=>(c.old i (Nat.lt_of_lt_of_le hi x.size) (by omega)).trans (x.old i hi)⟩
theorem Row.chg {h h':Heap}{b:Nat}{a:Option Addr}{cs:List Value}{ents:Array MapEntry}{c:Nat}(H:Row h a cs)(hb:h[b]?=some (.map ents c))(x:Chg h h' b):Row h' a cs:=by
  rcases H with H | ⟨g,off,cur,ct,fr,h1,h2,h3,h4⟩
  · exact .inl H
  · refine .inr ⟨g,off,cur,ct,fr,h1,x.get h2 ?_,h3,h4⟩
    rintro rfl
    rw [hb] at h2
    cases h2
theorem zJ.chg {h h':Heap}{b n:Nat}{a:Option Addr}{xs:List Int}{ents:Array MapEntry}{c:Nat}(H:zJ h a n xs)(hb:h[b]?=some (.map ents c))(x:Chg h h' b):zJ h' a n xs:=⟨H.len,H.row.chg hb x⟩
section maps
variable {α:Type} [DecidableEq α]
theorem zdd {a a':α}{v:Value}{c:Nat}:∀ {es:List (α × Value × Nat)},getA a' (putA a v c es)=if a'=a then some v else getA a' es
  | []=>by simp only [putA,getA]
  | x::es=>by
    have ih:=zdd (a:=a) (a':=a') (v:=v) (c:=c) (es:=es)
    by_cases hx:a=x.1
    · simp only [putA,hx,if_true,getA]
      by_cases h:a'=x.1 <;> simp [h]
    · simp only [putA,hx,if_false,getA,ih]
      by_cases h:a'=x.1
      · have:¬ a'=a:=fun e=>hx (by rw [← e,h])
        simp [h,this]
        intro e; exact absurd e.symm hx
      · simp [h]
theorem zlI {a:α}{v:Value}{c:Nat}:∀ {es:List (α × Value × Nat)},(putA a v c es).map (·.1)=if a∈es.map (·.1) then es.map (·.1) else es.map (·.1)++[a]
  | []=>by simp [putA]
  | x::es=>by
    have ih:=zlI (a:=a) (v:=v) (c:=c) (es:=es)
    by_cases hx:a=x.1
    · simp [putA,hx]
    · simp only [putA,hx,if_false,List.map_cons,ih,List.mem_cons,false_or]
      split <;> simp
theorem zeJ {a:α}{v:Value}{c:Nat}{es:List (α × Value × Nat)}(h:(es.map (·.1)).Nodup):((putA a v c es).map (·.1)).Nodup:=by
  rw [zlI]
  split
  · exact h
  · rename_i hn
    rw [List.nodup_append]
    refine⟨h,by simp,?_⟩
    intro x hx y hy
    simp at hy
    subst hy
    exact fun e=>hn (by rw [← e]; exact hx)
theorem zd9 {a:α}:∀ {es:List (α × Value × Nat)},(es.map (·.1)).Nodup→∀ {x},x∈es→x.1=a→getA a es=some x.2.1
  | [],_,x,h,_=>by cases h
  | y::es,hn,x,h,he=>by
    rw [List.map_cons,List.nodup_cons] at hn
    rcases List.mem_cons.1 h with rfl | h
    · simp [getA,he]
    · have:¬ a=y.1:=fun e=>hn.1 (by rw [← e,← he]; exact List.mem_map.2 ⟨x,h,rfl⟩)
      simp only [getA,this,if_false]
      exact zd9 hn.2 h he
theorem zhN {a:α}{v:Value}:∀ {es:List (α × Value × Nat)},getA a es=some v→∃ c,(a,v,c)∈es
  | [],h=>by cases h
  | x::es,h=>by
    simp only [getA] at h
    split at h
    · rename_i hx
      cases h
      exact⟨x.2.2,by rw [hx]; simp⟩
    · obtain⟨c,hc⟩:=zhN h
      exact⟨c,by simp [hc]⟩
end maps
def leftN (r b:Nat)(h:Heap):Nat:=match h[r]?,h[b]? with
  | some (.mapIter _ _ seen _),some (.map es _)=>(es.toList.filter fun e=>!seen.contains e.born).length
  | _,_=>0
theorem zhL {α:Type}{kv:α→Value}{r b since c0 c:Nat}{seen:Array Nat}{h:Heap}{es:List (α × Value × Nat)}(M:MapV kv h b es c)(hr:h[r]?=some (.mapIter (some b) since seen c0)):leftN r b h=(es.filter fun x=>!seen.contains x.2.2).length:=by
  rw [leftN,hr,M.obj]
  simp only [List.toList_toArray,List.filter_map,List.length_map]
  rfl
theorem filter_lt {α:Type}{p q:α→Bool}:∀ {l:List α},(∀ x∈l,q x=true→p x=true)→∀ {e:α},e∈l→p e=true→q e=false→(l.filter q).length<(l.filter p).length
  | [],_,e,h,_,_=>by cases h
  | y::l,hs,e,h,hp,hq=>by
    have hle:(l.filter q).length≤(l.filter p).length:=by
      have:l.filter q=(l.filter p).filter q:=by
        rw [List.filter_filter]
        apply List.filter_congr
        intro x hx
        by_cases hqx:q x=true
        · simp [hqx,hs x (by simp [hx]) hqx]
        · simp [hqx]
      rw [this]
      exact List.length_filter_le _ _
    rcases List.mem_cons.1 h with rfl | h
    · simp only [List.filter_cons,hp,hq,if_true,List.length_cons]
      simp
      omega
    · have ih:=filter_lt (p:=p) (q:=q) (fun x hx=>hs x (by simp [hx])) h hp hq
      simp only [List.filter_cons]
      by_cases hqy:q y=true
      · simp [hqy,hs y (by simp) hqy,ih]
      · by_cases hpy:p y=true
        · simp [hqy,hpy]; omega
        · simp [hqy,hpy,ih]
theorem born_eq {α:Type}{es:List (α × Value × Nat)}(hb:(es.map (·.2.2)).Pairwise (·<·)){x y:α × Value × Nat}(hx:x∈es)(hy:y∈es)(he:x.2.2=y.2.2):x=y:=by
  induction es with
  | nil=>cases hx
  | cons z es ih=>
    rw [List.map_cons,List.pairwise_cons] at hb
    rcases List.mem_cons.1 hx with h1 | h1
    · rcases List.mem_cons.1 hy with h2 | h2
      · rw [h1,h2]
      · have:=hb.1 _ (List.mem_map.2 ⟨y,h2,rfl⟩)
        rw [← h1] at this
        omega
    · rcases List.mem_cons.1 hy with h2 | h2
      · have:=hb.1 _ (List.mem_map.2 ⟨x,h1,rfl⟩)
        rw [← h2] at this
        omega
      · exact ih hb.2 h1 h2
end Go.Eng
end
section
set_option linter.unusedVariables false
set_option linter.unusedSimpArgs false
namespace Go.Eng
open Go
section yields
variable {P:Program} {l:Option Nat} {h:Heap} {e:Env} {d:List Deferred} {k:Cont}
def zfx (P:Program)(v:Value)(vs:List Value)(h:Heap)(K:Value→Heap→Prop):Prop:=
  ∀ (er:Env) (f:Operand) (xs:Array Operand) (ats:Array TypeId) (ty:TypeId),ev er f=v→(xs.map (ev er)).toList=vs→zg P (.call ⟨.value f,xs,ats⟩) ty er h K
theorem zfx.run {v:Value}{vs:List Value}{K K':Value→Heap→Prop}(H:zfx P v vs h K){er:Env}{f:Operand}{xs:Array Operand}{ats:Array TypeId}{ty:TypeId}(hf:ev er f=v)(hx:(xs.map (ev er)).toList=vs)
    (hk:∀ v h,K v h→K' v h):zg P (.call ⟨.value f,xs,ats⟩) ty er h K':=zY hk (H er f xs ats ty hf hx)
theorem zfx.run1 {v u:Value}{K K':Value→Heap→Prop}(H:zfx P v [u] h K){er:Env}{f x:Operand}{ats:Array TypeId}{ty:TypeId}(hf:ev er f=v)(hx:ev er x=u)
    (hk:∀ v h,K v h→K' v h):zg P (.call ⟨.value f,#[x],ats⟩) ty er h K':=zY hk (H er f #[x] ats ty hf (by simp [hx]))
theorem zA {lo:Nat}{first caps args:Array Value}{K:Value→Heap→Prop}{F:Prop}:zcK P (.func (.yield lo) first caps) args h K F=F:=by unfold zcK; rfl
theorem zcI {w:World}{r:Nat}{rec:Loop}(hr:w.heap[r]?=some (.loop rec)):(Instr.getLoop r).run P w=.ok rec w:=by
  simp [Instr.getLoop,getObj,Sem.run,hr,Result.andThen]
theorem zeh {w:World}{r:Nat}{rec:Loop}(hr:w.heap[r]?=some (.loop rec))(o:Obj):(setObj r o).run P w=.ok () { w with heap:=w.heap.setIfInBounds r o }:=by
  simp [setObj,Sem.run,hr]
theorem zp3 {w:World}{r:Nat}{rec:Loop}(hr:w.heap[r]?=some (.loop rec)){args:Array Value}(hs:args.size=rec.params.size) :
    (Instr.yield r args).run P w=.ok (.round r rec.fn ((rec.params.zip args).foldl (fun tmps (x:Tmp × Value)=>tmps.setIfInBounds x.1 x.2) rec.tmps) rec.assign rec.body) w:=by
  simp [Instr.yield,zcI hr,Result.andThen,hs]
theorem zpe {w:World}{r:Nat}{rec:Loop}(hr:w.heap[r]?=some (.loop rec))(hs:rec.state=.ready) :
    (Instr.beginRound r).run P w=.ok () { w with heap:=w.heap.setIfInBounds r (.loop { rec with state:=.busy }) }:=by
  simp [Instr.beginRound,zcI hr,zeh hr,Result.andThen,hs]
theorem zfy {w:World}{r:Nat}{rec:Loop}(hr:w.heap[r]?=some (.loop rec))(j:Option Code) :
    (Instr.endRound r j).run P w=.ok (.bool j.isNone) { w with heap:=w.heap.setIfInBounds r (.loop { rec with state:=if j.isNone then .ready else .done,pending:=j }) }:=by
  simp [Instr.endRound,zcI hr,zeh hr,Result.andThen]
theorem zmr {w:World}{r:Nat}{rec:Loop}(hr:w.heap[r]?=some (.loop rec))(hs:rec.state≠.busy) :
    (Instr.endLoop r).run P w=.ok rec.pending { w with heap:=w.heap.setIfInBounds r (.loop { rec with state:=.exhausted }) }:=by
  have:(rec.state == LoopState.busy)=false:=by cases hst:rec.state <;> first | rfl | exact absurd hst hs
  simp [Instr.endLoop,zcI hr,zeh hr,Result.andThen,this]
  intro hh; exact absurd hh hs
theorem ziJ:∀ (l:List (Tmp × Value)) (a:Array Value),(l.foldl (fun tmps (x:Tmp × Value)=>tmps.setIfInBounds x.1 x.2) a).toList=l.foldl (fun er (x:Tmp × Value)=>er.set x.1 x.2) a.toList
  | [],a=>rfl
  | x::l,a=>by
    simp only [List.foldl_cons]
    rw [ziJ l]
    simp
theorem zp1 {w:World}{fn:FuncId}{tmps:Array Value}{ps:Array Tmp}{a b:Code}:(Instr.enterLoop fn tmps ps a b none).run P w=.ok (w.heap.size+1,[{ target:=.collected w.heap.size,args:=#[] }])
    { w with heap:=(w.heap.push (.deferred (some []))).push (.loop { state:=.ready,pending:=none,fn,tmps,params:=ps,assign:=a,body:=b,defers:=w.heap.size }) }:=by
  simp [Instr.enterLoop,newObj,Sem.run,Result.andThen]
  exact⟨rfl,rfl,rfl⟩
def binds:List Tmp→List Value→Env→Env
  | p::ps,v::vs,e=>binds ps vs (e.set p v)
  | _,_,e=>e
theorem zH {p:Tmp}{ps:List Tmp}{v:Value}{vs:List Value}{e:Env}:binds (p::ps) (v::vs) e=binds ps vs (e.set p v):=eqi rfl
theorem zM {vs:List Value}{e:Env}:binds [] vs e=e:=by simp [binds]
theorem zl5:∀ (ps:List Tmp) (vs:List Value) (e:Env),binds ps vs e=(ps.zip vs).foldl (fun er (x:Tmp × Value)=>er.set x.1 x.2) e
  | [],vs,e=>by simp [binds]
  | p::ps,[],e=>by simp [binds]
  | p::ps,v::vs,e=>by simp [binds,zl5 ps vs]
def endY (lo:Nat)(K:Value→Heap→Prop):Cont:=fun x _ _ h=>∃ rec,h[lo]?=some (.loop rec)∧match x with
  | .normal=>K (.bool true) (h.setIfInBounds lo (.loop { rec with state:=.ready,pending:=none }))
  | .ret=>K (.bool false) (h.setIfInBounds lo (.loop { rec with state:=.done,pending:=some .ret }))
  | .exit i=>K (.bool false) (h.setIfInBounds lo (.loop { rec with state:=.done,pending:=some (.exit i) }))
  | .goto i=>K (.bool false) (h.setIfInBounds lo (.loop { rec with state:=.done,pending:=some (.goto i) }))
  | _=>False
def asgY (P:Program)(lo:Nat)(body:Code)(K:Value→Heap→Prop):Cont:=fun x e d h=>x=.normal∧∃ rec,h[lo]?=some (.loop rec)∧rec.state=.ready ∧
  exec (some lo) P body (endY lo K) e d (h.setIfInBounds lo (.loop { rec with state:=.busy }))
theorem zne {lo:Nat}{rec:Loop}{vs:List Value}{K:Value→Heap→Prop}(hr:h[lo]?=some (.loop rec))(hsz:vs.length=rec.params.size)
    (H:exec (some lo) P rec.assign (asgY P lo rec.body K) (binds rec.params.toList vs rec.tmps.toList) [] h):zfx P (.func (.yield lo) #[] #[]) vs h K:=by
  intro er f xs ats ty hf hx
  unfold zg
  refine And.intro rfl fun w hw=>?_
  subst hw
  have hargs:xs.map (ev er)=vs.toArray:=by apply Array.toList_inj.1; simpa using hx
  have hrun : (execOp (ev er) { dst := none, op := .call ⟨.value f, xs, ats⟩, type := ty, pos := "", after := #[], guard := none }).run P w = .ok (.round lo rec.fn ((rec.params.zip vs.toArray).foldl (fun tmps (x : Tmp × Value) => tmps.setIfInBounds x.1 x.2) rec.tmps) rec.assign rec.body) w := by
    have:=zp3 (P:=P) hr (args:=vs.toArray) (by simpa using hsz)
    simp only [execOp,resolve,hf,Deferred.ofValue,invoke,Sem.run_bind,Sem.run_pure,Result.andThen_ok,hargs,Array.empty_append,this]
  rw [hrun]
  refine⟨Eng.Rest.refl w,roundIn_of_wpIn trivial ?_⟩
  have ha:=zaz _ _ _ _ _ H
  unfold WP at ha
  have ha:=ha w rfl
  have htm:(binds rec.params.toList vs rec.tmps.toList).toArray=((rec.params.zip vs.toArray).foldl (fun tmps (x:Tmp × Value)=>tmps.setIfInBounds x.1 x.2) rec.tmps):=by
    apply Array.toList_inj.1
    rw [← Array.foldl_toList,ziJ,zl5]
    simp
  rw [← htm]
  refine wpIn_mono ha ?_
  rintro x1 a1 w1 ⟨⟨hx1,rec1,b1,b2,b3⟩,hr1⟩
  subst hx1
  refine⟨_,zpe (P:=P) b1 b2,?_⟩
  have hb:=zaz _ _ _ _ _ b3
  unfold WP at hb
  have hb:=hb { w1 with heap:=w1.heap.setIfInBounds lo (.loop { rec1 with state:=.busy }) } rfl
  rw [za1] at hb
  refine wpIn_mono hb ?_
  rintro x2 a2 w2 ⟨⟨rec2,c1,c2⟩,hr2⟩
  have hrest:Eng.Rest w w2:=hr1.trans ⟨hr2.os,hr2.tape,hr2.output⟩
  cases x2 with
  | normal=>exact⟨_,_,zfy (P:=P) c1 none,_,rfl,c2,hrest.trans ⟨rfl,rfl,rfl⟩⟩
  | ret=>exact⟨_,_,zfy (P:=P) c1 (some .ret),_,rfl,c2,hrest.trans ⟨rfl,rfl,rfl⟩⟩
  | exit i=>exact⟨_,_,zfy (P:=P) c1 (some (.exit i)),_,rfl,c2,hrest.trans ⟨rfl,rfl,rfl⟩⟩
  | goto i=>exact⟨_,_,zfy (P:=P) c1 (some (.goto i)),_,rfl,c2,hrest.trans ⟨rfl,rfl,rfl⟩⟩
  | _=>exact c2.elim
def mkD (r:Nat):Deferred:={ target:=.collected r,args:=#[] }
def endF (l:Option Nat)(P:Program)(lo:Nat)(k:Cont)(e:Env)(d:List Deferred)(h:Heap):Prop:=∃ rec,h[lo]?=some (.loop rec)∧rec.state≠.busy∧(match rec.pending with
  | none=>k .normal e d (h.setIfInBounds lo (.loop { rec with state:=.exhausted }))
  | some j=>exec l P j k e d (h.setIfInBounds lo (.loop { rec with state:=.exhausted })))
theorem WP_range {f:Operand}{ps:Array Tmp}{a b:Code}{gf:FuncId}{first caps:Array Value}(hf:ev e f=.func (.func gf) first caps)
    (H:∀ fn:FuncId,zb P gf (first++#[.func (.yield (h.size+1)) #[] #[]]++caps) ((h.push (.deferred (some []))).push (.loop { state:=.ready,pending:=none,fn,tmps:=e.toArray,params:=ps,assign:=a,body:=b,defers:=h.size }))
      (fun _ h2=>endF none P (h.size+1) k e (mkD h.size::d) h2)):WP none P (.rangeFunc f ps a b) k e d h:=by
  unfold WP
  intro w hw
  subst hw
  refine wpIn_rangeFunc fun fn _=>?_
  have hcl:=H fn
  unfold zb at hcl
  obtain⟨hbod,hcl⟩:=hcl
  obtain⟨W1,hW1⟩:∃ W1:World,W1={ w with heap:=(w.heap.push (.deferred (some []))).push (.loop { state:=.ready,pending:=none,fn,tmps:=e.toArray,params:=ps,assign:=a,body:=b,defers:=w.heap.size }) }:=⟨_,rfl⟩
  have hcw:=hcl W1 (by rw [hW1])
  unfold zbh at hcw
  refine⟨w.heap.size+1,[mkD w.heap.size],W1,⟨.fn (.func gf) caps,first++#[.func (.yield (w.heap.size+1)) #[] #[]]⟩,W1,gf,first++#[.func (.yield (w.heap.size+1)) #[] #[]]++caps,W1,?_,?_,fun _ _=>trivial,?_,fun hh=>by simp [zcF] at hh,zdH none ?_⟩
  · rw [hW1]
    exact zp1
  · have hev:ev e (.const (.func (.yield (w.heap.size+1)) #[] #[]))=.func (.yield (w.heap.size+1)) #[] #[]:=rfl
    rw [zaD]
    simp only [resolve,hf,Deferred.ofValue,Sem.run_pure,List.map_toArray,List.map_cons,List.map_nil,hev]
  · show (callFunc gf _).run P _=_
    exact zh8 hbod _
  · refine Calls.mono hcw ?_
    rintro e' w3 ⟨v,rfl,⟨rec,q1,q2,q3⟩,hr3⟩
    have hr3:Eng.Rest w w3:=by rw [hW1] at hr3; exact⟨hr3.os,hr3.tape,hr3.output⟩
    refine⟨_,_,zmr (P:=P) q1 q2,?_⟩
    cases hp:rec.pending with
    | none=>
      rw [hp] at q3
      exact⟨q3,⟨hr3.os,hr3.tape,hr3.output⟩⟩
    | some j=>
      rw [hp] at q3
      have hb:=zaz _ _ _ _ _ q3
      unfold WP at hb
      rw [← hp] at hb
      have hb:=hb { w3 with heap:=w3.heap.setIfInBounds (w.heap.size+1) (.loop { rec with state:=.exhausted }) } rfl
      rw [hp] at hb
      refine wpIn_mono hb ?_
      rintro x a' w4 ⟨c1,c2⟩
      exact⟨c1,hr3.trans ⟨c2.os,c2.tape,c2.output⟩⟩
theorem zby {b:Frame}{a:Act}{k:List Item}{cs:List Frame}{w:World}{c:Code}:Go.step P (lone (b.atR a (.code (.scope c)::k)) cs w)=.next (lone (b.atR a (.code c::.inScope c::k)) cs w):=
  step_lone_go (by simp [stepG,stepG.exec,Frame.atR])
theorem zj3 {b:Frame}{a:Act}{k:List Item}{cs:List Frame}{w:World}{c:Code}:Go.step P (lone (b.atR a (.inScope c::k)) cs w)=.next (lone (b.atR a k) cs w):=
  step_lone_go (by simp [stepG,stepG.exec,Frame.atR])
theorem znH {F:Fence}{n:Nat}{Q:Exit→Act→World→Prop}{a:Act}{w:World}{c:Code}(hc:c.wpIn F n P (fun x a w=>(∀ i,x≠.goto i)∧Q x a w) a w):(Code.scope c).wpIn F n P Q a w:=by
  intro b k cs hro hb hr
  have h0:(lone (b.atR a (.code (.scope c)::k)) cs w).fenced P F:=fenced_calm hb hr rfl
  obtain⟨e,a₁,w₁,hq,harr⟩:=hc b (.inScope c::k) cs hro hb hr
  cases e with
  | normal=>exact⟨.normal,a₁,w₁,hq.2,.head h0 zby (StepsIn.trans harr (.one (fenced_calm hb hr rfl) zj3))⟩
  | exit id=>
    have hx:exitTo id (.inScope c::k)=exitTo id k:=by simp [exitTo]
    exact⟨.exit id,a₁,w₁,hq.2,fun k' hk=>.head h0 zby (harr.1 k' (by rw [hx]; exact hk)),
      fun hr' hk=>let ⟨k₁,h1,h2⟩:=harr.2 hr' (by rw [hx]; exact hk); ⟨k₁,h1,.head h0 zby h2⟩⟩
  | goto l=>exact absurd rfl (hq.1 l)
  | ret=>exact⟨_,a₁,w₁,hq.2,.of_steps (.one h0 zby) harr⟩
  | panic ch=>exact⟨_,a₁,w₁,hq.2,.of_steps (.one h0 zby) harr⟩
  | outgrown=>exact⟨_,a₁,w₁,hq.2,.of_steps (.one h0 zby) harr⟩
theorem zry {f:Operand}{ps:Array Tmp}{a b:Code}{gf:FuncId}{first caps:Array Value}(hf:ev e f=.func (.func gf) first caps)
    (H:∀ R:Loop,R.state=.ready→R.pending=none→R.tmps=e.toArray→R.params=ps→R.assign=a→R.body=b→R.defers=h.size →
      zb P gf (first++#[.func (.yield (h.size+1)) #[] #[]]++caps) ((h.push (.deferred (some []))).push (.loop R)) (fun _ h2=>endF none P (h.size+1) k e (mkD h.size::d) h2)):WP none P (.rangeFunc f ps a b) k e d h:=
  WP_range hf fun fn=>H _ rfl rfl rfl rfl rfl rfl rfl
theorem Loop.back {R:Loop}(h1:R.state=.ready)(h2:R.pending=none):({ ({ R with state:=.busy }:Loop) with state:=.ready,pending:=none }:Loop)=R:=by
  cases R; simp_all
def zgv (k:Cont):Cont:=fun x e d h=>(∀ i,x≠.goto i)∧k x e d h
theorem WP_scope {c:Code}(H:exec l P c (zgv k) e d h):WP l P (.scope c) k e d h:=by
  have hb:=zaz _ _ _ _ _ H
  unfold WP at *
  intro w hw
  refine znH (wpIn_mono (hb w hw) ?_)
  rintro x a' w' ⟨⟨c1,c2⟩,hr⟩
  exact⟨c1,c2,hr⟩
theorem zqe {c:Code}(H:exec l P c (zgv k) e d h):exec l P (.scope c) k e d h:=by
  unfold exec
  exact WP_scope H
theorem zy:zgv k .normal e d h=k .normal e d h:=eqi (propext ⟨fun H=>H.2,fun H=>⟨fun _ hi=>(by cases hi),H⟩⟩)
theorem zI:zgv k .ret e d h=k .ret e d h:=eqi (propext ⟨fun H=>H.2,fun H=>⟨fun _ hi=>(by cases hi),H⟩⟩)
theorem zB {i:Nat}:zgv k (.exit i) e d h=k (.exit i) e d h:=eqi (propext ⟨fun H=>H.2,fun H=>⟨fun _ hi=>(by cases hi),H⟩⟩)
theorem fin_mark {rs:List ResultVar}{K:Value→Heap→Prop}{r:Nat}(hr:h[r]?=some (.deferred (some [])))(H:resA P rs e [] K (h.setIfInBounds r (.deferred none))):finW P rs e [mkD r] h K:=by
  unfold finW
  exact⟨⟨r,rfl,hr,trivial⟩,H⟩
theorem znn {lo:Nat}{body:Code}{K:Value→Heap→Prop}{rec:Loop}(hr:h[lo]?=some (.loop rec))(hs:rec.state=.ready)(H:exec (some lo) P body (endY lo K) e d (h.setIfInBounds lo (.loop { rec with state:=.busy }))):asgY P lo body K .normal e d h:=
  ⟨rfl,rec,hr,hs,H⟩
theorem Upd.set {b:Nat}{o:Obj}:Upd h (h.setIfInBounds b o) b:=⟨by simp,fun b' hb=>Array.getElem?_setIfInBounds_ne (Ne.symm hb)⟩
theorem zg7 {b:Nat}{o:Obj}(hb:b<h.size):(h.setIfInBounds b o)[b]?=some o:=by simp [hb]
def zi6 (P:Program)(v:Value)(F:Heap→Prop)(xss:List (List Value)):Prop:=
  ∃ q first caps,v=.func (.func q) first caps∧∀ (lo:Nat) (h0:Heap) (J:Nat→Heap→Prop) (E:Heap→Prop),(∀ i h',J i h'→F h')→J 0 h0 →
    (∀ i h' vs,xss[i]?=some vs→J i h'→zfx P (.func (.yield lo) #[] #[]) vs h' (fun v h''=>(v=.bool true∧J (i+1) h'')∨(v=.bool false∧E h''))) →
    zb P q (first++#[.func (.yield lo) #[] #[]]++caps) h0 (fun _ h'=>J xss.length h'∨E h')
def endI (lo:Nat)(o:Obj)(K:Heap→Prop)(Br:Code→Heap→Prop):Cont:=fun x _ _ h=>h[lo]?=some o∧match x with
  | .normal=>K h
  | .ret=>Br .ret h
  | .exit i=>Br (.exit i) h
  | _=>False
def asgI (P:Program)(lo:Nat)(o:Obj)(b:Code)(K:Heap→Prop)(Br:Code→Heap→Prop):Cont:=fun x e d h=>x=.normal∧h[lo]?=some o ∧
  ∀ h2 o2,Upd h h2 lo→h2[lo]?=some o2→exec (some lo) P b (endI lo o2 K Br) e d h2
theorem znN {lo:Nat}{o:Obj}{K:Heap→Prop}{Br:Code→Heap→Prop}:endI lo o K Br .normal e d h=(h[lo]?=some o∧K h):=eqi rfl
theorem znv {lo:Nat}{o:Obj}{b:Code}{K:Heap→Prop}{Br:Code→Heap→Prop}:asgI P lo o b K Br .normal e d h=(h[lo]?=some o ∧
  ∀ h2 o2,Upd h h2 lo→h2[lo]?=some o2→exec (some lo) P b (endI lo o2 K Br) e d h2):=eqi (propext ⟨fun H=>H.2,fun H=>⟨rfl,H⟩⟩)
theorem zqS {f:Operand}{ps:Array Tmp}{a b:Code}{v:Value}{F:Heap→Prop}{xss:List (List Value)}(hf:ev e f=v)(hseq:zi6 P v F xss)(Inv:Nat→Heap→Prop)(Br:Code→Heap→Prop)
    (hps:∀ vs∈xss,vs.length=ps.size)
    (hext:∀ i h',Inv i h'→F h')
    (hupd:∀ i h1 h2,Inv i h1→Upd h1 h2 (h.size+1)→Inv i h2) (bupd:∀ j h1 h2,Br j h1→Upd h1 h2 (h.size+1)→Br j h2)
    (start:∀ h',Ext h h'→h'[h.size]?=some (.deferred (some []))→h'.size=h.size+2→Inv 0 h')
    (round:∀ i h' vs o,xss[i]?=some vs→Inv i h'→h'[h.size+1]?=some o→exec (some (h.size+1)) P a (asgI P (h.size+1) o b (Inv (i+1)) Br) (binds ps.toList vs e) [] h')
    (fin:∀ h',Inv xss.length h'→k .normal e (mkD h.size::d) h')
    (brk:∀ j h',Br j h'→exec none P j k e (mkD h.size::d) h'):WP none P (.rangeFunc f ps a b) k e d h:=by
  obtain⟨q,first,caps,rfl,hq⟩:=hseq
  refine zry hf ?_
  intro R R1 R2 R3 R4 R5 R6 R7
  have hsz:(h.push (.deferred (some []))).size=h.size+1:=by simp
  refine zb.mono (hq (h.size+1) _ (fun i h'=>Inv i h'∧h'[h.size+1]?=some (.loop R)) (fun h'=>∃ (rec:Loop) (j:Code),h'[h.size+1]?=some (.loop rec)∧rec.state=.done∧rec.pending=some j∧Br j h') (fun i h' H=>hext i h' H.1) ?_ ?_) ?_
  · refine⟨start _ (((Ext.refl h).push _).push _) (zaO zu) (by simp),?_⟩
    have:=zu (h:=h.push (.deferred (some []))) (o:=.loop R)
    rwa [hsz] at this
  · rintro i h' vs hvs ⟨hI,hR⟩
    refine zne hR (by rw [R4]; exact hps _ (List.mem_of_getElem? hvs)) ?_
    rw [R3,R4,R5,R6,List.toList_toArray]
    refine zbs a ?_ _ _ _ (round i h' vs _ hvs hI hR)
    rintro x e2 d2 h2 ⟨rfl,h2o,H⟩
    refine znn h2o R1 ?_
    refine zbs b ?_ _ _ _ (H _ _ Upd.set (zg7 (zt h2o)))
    rintro x e3 d3 h3 ⟨h3o,H3⟩
    cases x with
    | normal=>
      refine⟨_,h3o,?_⟩
      refine .inl ⟨rfl,hupd _ _ _ H3 Upd.set,?_⟩
      show (h3.setIfInBounds _ _)[_]?=_
      rw [zg7 (zt h3o),Loop.back R1 R2]
    | ret=>
      refine⟨_,h3o,?_⟩
      exact .inr ⟨rfl,_,_,zg7 (zt h3o),rfl,rfl,bupd _ _ _ H3 Upd.set⟩
    | exit j=>
      refine⟨_,h3o,?_⟩
      exact .inr ⟨rfl,_,_,zg7 (zt h3o),rfl,rfl,bupd _ _ _ H3 Upd.set⟩
    | _=>exact H3.elim
  · rintro v h' (⟨hI,hR⟩ | ⟨rec,j,hR,hst,hpd,hB⟩)
    · refine⟨_,hR,by rw [R1]; decide,?_⟩
      rw [R2]
      exact fin _ (hupd _ _ _ hI Upd.set)
    · refine⟨_,hR,by rw [hst]; decide,?_⟩
      rw [hpd]
      exact brk _ _ (bupd _ _ _ hB Upd.set)
end yields
end Go.Eng
end
