/- Texts joined by pack.py: lemmas for YtepaekbjoombpaaGreatDoorSettles. No condition. -/
import Derived.Test.YtepaekbjoombpaaGreatDoorPE13
import Derived.ProofKit
import Derived.OpenShut
import Derived.Below
import Derived.WideKeyArgs
import Derived.ChangeSlices
set_option linter.unusedSimpArgs false
set_option linter.unusedVariables false
set_option linter.defProp false
section
namespace Go.Proofs.YtepaekbjoombpaaGreatDoor
open Go Go.Proofs Go.Run Go.Eng
set_option maxRecDepth 100000
@[reducible] noncomputable def M:Fm:=⟨zbB Pt.ff18.nt,Pt.ff18.nt⟩
noncomputable def E1:E:=fromE M [(0,.bool false),(1,.ptr 5 0),(2,.slice 56 0 4 4),(3,.int .i64 0),(5,.int .i64 3),(6,.own 170 2),(7,.int .i64 0),(9,.int .i64 2),(10,.ptr 219 0),(11,.int .i64 0),(13,.int .i64 25),(15,.int .i64 16),(16,.ptr 475 0),(17,.int .i64 0),(19,.int .i64 16),(21,.int .i64 2),(22,.ptr 612 0),(23,.int .i64 0)] (.leaf .any)
noncomputable def S1:S:=⟨fromV [(4,.row [.int .i64 1,.int .i64 0,.int .i64 1,.int .i64 5,.int .i64 3,.int .i64 1,.int .i64 2,.int .i64 3,.int .i64 3,.int .i64 2,.int .i64 0,.int .i64 1] 26 false),(5,.row [.int .i64 4,.int .i64 2,.slice 4 0 3 3] 24 false),(56,.row [.int .i64 (-4),.int .i64 2,.int .i64 2,.int .i64 0] 2 false),(170,.row [.int .i64 1,.int .i64 2] 3 true),(219,.row [.int .i64 4,.int .i64 2,.own 275 4] 24 false),(275,.row [.int .i64 1,.int .i64 0,.int .i64 1,.int .i64 5,.int .i64 3,.int .i64 1,.int .i64 2,.int .i64 3,.int .i64 3,.int .i64 2,.int .i64 0,.int .i64 1,.int .i64 3,.int .i64 3,.int .i64 0,.int .i64 4] 26 true),(474,.row [.int .i64 1,.int .i64 0,.int .i64 1,.int .i64 5,.int .i64 3,.int .i64 1,.int .i64 2,.int .i64 3,.int .i64 3,.int .i64 2,.int .i64 0,.int .i64 1,.int .i64 4,.int .i64 2,.int .i64 1,.int .i64 3] 26 true),(475,.row [.int .i64 4,.int .i64 2,.own 474 4] 24 false),(611,.row [.int .i64 1,.int .i64 0,.int .i64 1,.int .i64 5,.int .i64 3,.int .i64 1,.int .i64 2,.int .i64 3,.int .i64 3,.int .i64 2,.int .i64 0,.int .i64 1] 26 true),(612,.row [.int .i64 4,.int .i64 3,.own 611 3] 24 false)] (.leaf none),613,0⟩
theorem c0:seg Pt.pr 1000000 M ((segs Pt.ff18.body).take 13) [0,1,2,3,5,6,7,9,10,11,13,15,16,17,19,21,22,23] [4,5,56,170,219,275,474,475,611,612] (.leaf zaA) [] s0=some (E1,[],S1):=by kernel_rfl
noncomputable def E2:E:=fromE M [(0,.bool false),(1,.ptr 5 0),(2,.slice 56 0 4 4),(3,.int .i64 0),(5,.int .i64 3),(6,.own 170 2),(7,.int .i64 0),(9,.int .i64 2),(10,.ptr 219 0),(11,.int .i64 0),(13,.int .i64 25),(15,.int .i64 16),(16,.ptr 475 0),(17,.int .i64 0),(19,.int .i64 16),(21,.int .i64 2),(22,.ptr 612 0),(23,.int .i64 0),(25,.int .i64 25),(26,.int .i64 1),(27,.int .i64 0),(29,.int .i64 14),(30,.int .i64 2),(31,.int .i64 0),(32,.int .i64 2),(33,.int .i64 0)] (.leaf .any)
noncomputable def S2:S:=⟨fromV [(4,.row [.int .i64 1,.int .i64 0,.int .i64 1,.int .i64 5,.int .i64 3,.int .i64 1,.int .i64 2,.int .i64 3,.int .i64 3,.int .i64 2,.int .i64 0,.int .i64 1] 26 false),(5,.row [.int .i64 4,.int .i64 2,.slice 4 0 3 3] 24 false),(56,.row [.int .i64 (-4),.int .i64 2,.int .i64 2,.int .i64 0] 2 false),(170,.row [.int .i64 1,.int .i64 2] 3 true),(219,.row [.int .i64 4,.int .i64 2,.own 275 4] 24 false),(275,.row [.int .i64 1,.int .i64 0,.int .i64 1,.int .i64 5,.int .i64 3,.int .i64 1,.int .i64 2,.int .i64 3,.int .i64 3,.int .i64 2,.int .i64 0,.int .i64 1,.int .i64 3,.int .i64 3,.int .i64 0,.int .i64 4] 26 true),(474,.row [.int .i64 1,.int .i64 0,.int .i64 1,.int .i64 5,.int .i64 3,.int .i64 1,.int .i64 2,.int .i64 3,.int .i64 3,.int .i64 2,.int .i64 0,.int .i64 1,.int .i64 4,.int .i64 2,.int .i64 1,.int .i64 3] 26 true),(475,.row [.int .i64 4,.int .i64 2,.own 474 4] 24 false),(611,.row [.int .i64 1,.int .i64 0,.int .i64 1,.int .i64 5,.int .i64 3,.int .i64 1,.int .i64 2,.int .i64 3,.int .i64 3,.int .i64 2,.int .i64 0,.int .i64 1] 26 true),(612,.row [.int .i64 4,.int .i64 3,.own 611 3] 24 false)] (.leaf none),1025,0⟩
theorem c1:seg Pt.pr 1000000 M (((segs Pt.ff18.body).drop 13).take 5) [0,1,2,3,5,6,7,9,10,11,13,15,16,17,19,21,22,23,25,26,27,29,30,31,32,33] [4,5,56,170,219,275,474,475,611,612] E1 [] S1=some (E2,[],S2):=by kernel_rfl
noncomputable def E3:E:=fromE M [(0,.bool false),(1,.ptr 5 0),(2,.slice 56 0 4 4),(3,.int .i64 0),(5,.int .i64 3),(6,.own 170 2),(7,.int .i64 0),(9,.int .i64 2),(10,.ptr 219 0),(11,.int .i64 0),(13,.int .i64 25),(15,.int .i64 16),(16,.ptr 475 0),(17,.int .i64 0),(19,.int .i64 16),(21,.int .i64 2),(22,.ptr 612 0),(23,.int .i64 0),(25,.int .i64 25),(26,.int .i64 1),(27,.int .i64 0),(29,.int .i64 14),(30,.int .i64 2),(31,.int .i64 0),(32,.int .i64 2),(33,.int .i64 0),(35,.int .i64 25),(36,.own 1241 2),(37,.int .i64 0),(38,.str [102]),(39,.int .i64 0),(40,.int .i64 0),(41,.int .i64 14),(42,.int .i64 8),(43,.str [52,32,50,32,101,10,49,32,48,32,49,32,53,32,102,10,51,32,49,32,50,32,51,32,98,10,51,32,50,32,48,32,49,32,103,10,51,32,57,32,108,10]),(44,.int .i64 0)] (.leaf .any)
noncomputable def S3:S:=⟨fromV [(4,.row [.int .i64 1,.int .i64 0,.int .i64 1,.int .i64 5,.int .i64 3,.int .i64 1,.int .i64 2,.int .i64 3,.int .i64 3,.int .i64 2,.int .i64 0,.int .i64 1] 26 false),(5,.row [.int .i64 4,.int .i64 2,.slice 4 0 3 3] 24 false),(56,.row [.int .i64 (-4),.int .i64 2,.int .i64 2,.int .i64 0] 2 false),(170,.row [.int .i64 1,.int .i64 2] 3 true),(219,.row [.int .i64 4,.int .i64 2,.own 275 4] 24 false),(275,.row [.int .i64 1,.int .i64 0,.int .i64 1,.int .i64 5,.int .i64 3,.int .i64 1,.int .i64 2,.int .i64 3,.int .i64 3,.int .i64 2,.int .i64 0,.int .i64 1,.int .i64 3,.int .i64 3,.int .i64 0,.int .i64 4] 26 true),(474,.row [.int .i64 1,.int .i64 0,.int .i64 1,.int .i64 5,.int .i64 3,.int .i64 1,.int .i64 2,.int .i64 3,.int .i64 3,.int .i64 2,.int .i64 0,.int .i64 1,.int .i64 4,.int .i64 2,.int .i64 1,.int .i64 3] 26 true),(475,.row [.int .i64 4,.int .i64 2,.own 474 4] 24 false),(611,.row [.int .i64 1,.int .i64 0,.int .i64 1,.int .i64 5,.int .i64 3,.int .i64 1,.int .i64 2,.int .i64 3,.int .i64 3,.int .i64 2,.int .i64 0,.int .i64 1] 26 true),(612,.row [.int .i64 4,.int .i64 3,.own 611 3] 24 false),(1241,.row [.int .i64 1,.int .i64 0,.int .i64 4,.int .i64 2,.int .i64 1,.int .i64 2] 139 true)] (.leaf none),1385,0⟩
theorem c2:seg Pt.pr 1000000 M ((((segs Pt.ff18.body).drop 13).drop 5).take 5) [0,1,2,3,5,6,7,9,10,11,13,15,16,17,19,21,22,23,25,26,27,29,30,31,32,33,35,36,37,38,39,40,41,42,43,44] [4,5,56,170,219,275,474,475,611,612,1241] E2 [] S2=some (E3,[],S3):=by kernel_rfl
theorem c3:lastB Pt.pr 1000000 M Pt.ff18.res ((((segs Pt.ff18.body).drop 13).drop 5).drop 5) E3 [] S3=true:=by kernel_rfl
theorem works18 (h:Eng.Heap):zb Tryz.prog 18 #[] h (fun v h'=>v=.bool true∧Ext h h'):=
  znK Pt.ok Pt.lb (f:=18) (fi:=Pt.ff18) (by kernel_rfl) (by decide +kernel) (.next 13 _ _ c0 (.next 5 _ _ c1 (.next 5 _ _ c2 (.last c3)))) h
end Go.Proofs.YtepaekbjoombpaaGreatDoor
end
section
namespace Go.Proofs.YtepaekbjoombpaaGreatDoor
open Go Go.Proofs Go.Eng Go.Run Tab
set_option maxRecDepth 100000
set_option linter.unusedSimpArgs false
set_option linter.unusedVariables false
set_option linter.defProp false
set_option maxHeartbeats 4000000
set_option linter.defProp false
def zX:=(And.intro (And.intro @zbV @zbS) (And.intro @sz24 (And.intro @Tryz.underlying73 @Tryz.underlying77)))
def zoC:=(And.intro (And.intro (And.intro @zbV @by3) (And.intro @zbS @inf3)) (And.intro (And.intro @sz24 @sz3) (And.intro @zbH @Tryz.underlying40)))
theorem zrY (acc cl:Int)(a:Option Addr)(n c:Nat)(es:List En)(day:Int)(h:Eng.Heap)(hr:Row h a (ensV es))(hn:n=es.length)(hl:n≤1000000)(e0:opn acc cl es [day]≠0) :
    zb Tryz.prog 61 #[.agg #[.int .i64 acc,.int .i64 cl,.slice a n c],.int .i64 day] h (fun v h'=>v=.tuple #[.slice none 0 0,.int .i64 (opn acc cl es [day])]∧Ext h h'):=by
  (refine ze Tryz.func61 rfl bod61 ?_; simp only [Tryz.ntmps61,Tryz.results61,za,zh,splice,Value.cells,Value.oneCell',Nat.reduceAdd,Nat.reduceSub,Nat.reduceMul,Nat.reduceLeDiff,Int.reduceEq,Nat.reduceEqDiff,zoC])
  refine zb.mono (zfb acc cl a n c es _ 1 1 [day] _ ((hr.push _).push _) hn hl (zaB pn1) (by omega)) ?_
  rintro v h1 ⟨x1,H⟩
  have y1:=x1.of_push.of_push
  rcases H with⟨h0,_⟩ | ⟨_,rfl⟩
  · exact absurd h0 e0
  have hd0:=decide_eq_false e0
  simp only [hd0,Bool.not_false,za,Value.cells,Value.oneCell',Nat.reduceAdd,Nat.reduceSub,Nat.reduceMul,Nat.reduceLeDiff,Int.reduceEq,Nat.reduceEqDiff,zoC]
  exact y1
theorem flat_le {gs:List (List Int)}(h:∀ g∈gs,g.length≤12):gs.flatten.length≤12*gs.length:=by
  induction gs with
  | nil=>simp
  | cons g gs ih=>
    have h1:=h g List.mem_cons_self
    have h2:=ih fun x hx=>h x (List.mem_cons_of_mem _ hx)
    rw [List.flatten_cons,List.length_append,List.length_cons]
    omega
theorem zom {h:Eng.Heap}{T:List Hd}{gs:List (List Int)}(L:Lss h T gs)(hw:zdf T=false):gs.length≤12∧gs.flatten.length≤1000:=by
  unfold zdf at hw
  rw [Bool.or_eq_false_iff,decide_eq_false_iff_not,List.any_eq_false] at hw
  have hT:=L.len
  have h1:gs.length≤12:=by omega
  refine⟨h1,Nat.le_trans (flat_le fun g hg=>?_) (by omega)⟩
  obtain⟨i,hi,rfl⟩:=List.mem_iff_getElem.1 hg
  have h2:=(L.each i hi).len
  rw [List.getD_eq_getElem?_getD (l:=gs),List.getElem?_eq_getElem hi] at h2
  have h3:=hw.2 (T.getD i (none,0,0)) (by rw [List.getD_eq_getElem?_getD,List.getElem?_eq_getElem (by omega)]; exact List.getElem_mem _)
  rw [decide_eq_true_eq] at h3
  have h2:(T.getD i (none,0,0)).2.1=gs[i].length:=h2
  omega
theorem bld_lss {k:Nat}{h:Eng.Heap}{G:List (Hd × Nat)}(B:Bld k h G):Lss h (G.map (·.1)) (G.map fun g=>nz (acc g.2 k)):=by
  refine⟨by rw [List.length_map,List.length_map],fun i hi=>?_⟩
  rw [List.length_map] at hi
  rw [List.getD_eq_getElem?_getD,List.getElem?_eq_getElem (by rw [List.length_map]; exact hi),List.getElem_map,List.getD_eq_getElem?_getD,List.getElem?_eq_getElem (by rw [List.length_map]; exact hi),List.getElem_map]
  exact (B G[i] (List.getElem_mem hi)).2.ints
theorem bld_wide {k:Nat}{h:Eng.Heap}{G:List (Hd × Nat)}(B:Bld k h G)(hk:k≤8)(hG:G.length≤8):zdf (G.map (·.1))=false:=by
  unfold zdf
  rw [Bool.or_eq_false_iff,decide_eq_false_iff_not,List.any_eq_false]
  refine⟨by rw [List.length_map]; omega,fun t ht=>?_⟩
  obtain⟨g,hg,rfl⟩:=List.mem_map.1 ht
  have h1:=(B g hg).1
  have h2:=ze1 g.2 k
  rw [decide_eq_true_eq]
  omega
theorem most_8 {es:List En}{day:Int}{S ps:List Nat}(hpm:S.Perm ps)(hpt:LS.Pt (LS.zero (l8 es day) 8) (LS.msk (LS.opn (l8 es day)) 8) ps):S.length≤8:=by
  have h1:=hpm.length_eq
  have h2:=zii (n:=8) hpt fun i hi=>by
    rw [LS.zaU,Bool.and_eq_true,decide_eq_true_eq] at hi
    exact hi.1
  have h3:=ze1 (LS.msk (LS.opn (l8 es day)) 8) 8
  omega
theorem settles15 (ac cl:Int)(a:Option Addr)(n c:Nat)(es:List En)(day:Int)(b:Option Addr)(m d:Nat)(ps:List Pm)(b2:Option Addr)(m2 d2:Nat)(T:List Hd)(gs:List (List Int))(h:Eng.Heap)(hr:Row h a (ensV es))(hn:n=es.length)(hp:Row h b (pmsV ps))(hm:m=ps.length)(R:Row h b2 (hdsV T))(hm2:m2=T.length)(L:Lss h T gs) :
    zb Tryz.prog 15 #[.agg #[.int .i64 ac,.int .i64 cl,.slice a n c],.int .i64 day,.slice b m d,.slice b2 m2 d2] h (fun v h'=>v=.bool true∧Ext h h'):=by
  have hT:=L.len
  (refine ze Tryz.func15 rfl bod15 ?_; simp only [Tryz.ntmps15,Tryz.results15,za,zh,splice,Value.cells,Value.oneCell',Nat.reduceAdd,Nat.reduceSub,Nat.reduceMul,Nat.reduceLeDiff,Int.reduceEq,Nat.reduceEqDiff,zX])
  have q0:=zu (h:=h) (o:=.cells #[.int .i64 ac,.int .i64 cl,.slice a n c] 24)
  have x0:Ext h (h.push (.cells #[.int .i64 ac,.int .i64 cl,.slice a n c] 24)):=(Ext.refl h).push _
  generalize h.push (.cells #[.int .i64 ac,.int .i64 cl,.slice a n c] 24)=h0 at q0 x0 ⊢
  refine zb.mono (great17 ac cl a n c h0) ?_
  rintro v h1 ⟨rfl,x1⟩
  have hb1:=x1.get q0
  have y1:=x0.trans x1
  have wk:∀ {hh:Eng.Heap},Ext h hh→zb Tryz.prog 18 #[] hh (fun v h'=>v=.bool true∧Ext h h'):=fun x=>zb.mono (works18 _) fun v h' ⟨hv,x'⟩=>⟨hv,x.trans x'⟩
  by_cases hg:26<(n:Int)
  · have hg1:decide (26<(n:Int))=true:=decide_eq_true hg
    simp only [hg1,zO,zU,za,Value.cells,Value.oneCell',Nat.reduceAdd,Nat.reduceSub,Nat.reduceMul,Nat.reduceLeDiff,Int.reduceEq,Nat.reduceEqDiff,zX]
    refine zb.mono (wk y1) ?_
    rintro v h8 ⟨rfl,x8⟩
    simp only [za,Value.cells,Value.oneCell',Nat.reduceAdd,Nat.reduceSub,Nat.reduceMul,Nat.reduceLeDiff,Int.reduceEq,Nat.reduceEqDiff,zX]
    exact x8
  have hg1:decide (26<(n:Int))=false:=decide_eq_false hg
  by_cases h30:30<m
  · have h30i:(30:Int)<(m:Int):=by omega
    simp only [hg1,h30i,zO,zU,decide_true,za,Value.cells,Value.oneCell',Nat.reduceAdd,Nat.reduceSub,Nat.reduceMul,Nat.reduceLeDiff,Int.reduceEq,Nat.reduceEqDiff,zX]
    refine zb.mono (wk y1) ?_
    rintro v h8 ⟨rfl,x8⟩
    simp only [za,Value.cells,Value.oneCell',Nat.reduceAdd,Nat.reduceSub,Nat.reduceMul,Nat.reduceLeDiff,Int.reduceEq,Nat.reduceEqDiff,zX]
    exact x8
  have h30i:¬ (30:Int)<(m:Int):=by omega
  simp only [hg1,h30i,zO,zU,decide_false,za,Value.cells,Value.oneCell',Nat.reduceAdd,Nat.reduceSub,Nat.reduceMul,Nat.reduceLeDiff,Int.reduceEq,Nat.reduceEqDiff,zX]
  refine zb.mono (zlt b2 m2 d2 T h1 (R.ext y1) hm2) ?_
  rintro v h2 ⟨rfl,rfl⟩
  cases hw:zdf T with
  | true=>
    simp only [za,Value.cells,Value.oneCell',Nat.reduceAdd,Nat.reduceSub,Nat.reduceMul,Nat.reduceLeDiff,Int.reduceEq,Nat.reduceEqDiff,zX]
    refine zb.mono (wk y1) ?_
    rintro v h8 ⟨rfl,x8⟩
    simp only [za,Value.cells,Value.oneCell',Nat.reduceAdd,Nat.reduceSub,Nat.reduceMul,Nat.reduceLeDiff,Int.reduceEq,Nat.reduceEqDiff,zX]
    exact x8
  | false=>
  obtain⟨hgl,hfl⟩:=zom L hw
  have hl:n≤1000000:=by omega
  simp only [hb1,za,Value.cells,Value.oneCell',Nat.reduceAdd,Nat.reduceSub,Nat.reduceMul,Nat.reduceLeDiff,Int.reduceEq,Nat.reduceEqDiff,zX]
  refine zb.mono (pays54 ac cl a n c es day b m d ps h2 (hr.ext y1) hn hl (hp.ext y1) hm (by omega)) ?_
  rintro v h3 ⟨rfl,x3⟩
  have y3:=y1.trans x3
  have hb3:=x3.get hb1
  unfold cpyV
  simp only [hb3,za,Value.cells,Value.oneCell',Nat.reduceAdd,Nat.reduceSub,Nat.reduceMul,Nat.reduceLeDiff,Int.reduceEq,Nat.reduceEqDiff,zX]
  refine zb.mono (pays58 ac cl a n c es day b m d ps h3 (hr.ext y3) hn hl (hp.ext y3) hm (by omega)) ?_
  rintro v h4 ⟨rfl,x4⟩
  have y4:=y3.trans x4
  have hb4:=x4.get hb3
  unfold cpyV
  simp only [hb4,za,Value.cells,Value.oneCell',Nat.reduceAdd,Nat.reduceSub,Nat.reduceMul,Nat.reduceLeDiff,Int.reduceEq,Nat.reduceEqDiff,zX]
  refine zb.mono (groups51 ac cl a n c es day b2 m2 d2 T gs h4 (hr.ext y4) hn hl (R.ext y4) (L.ext y4) (by omega) (by omega) hfl) ?_
  rintro v h5 ⟨rfl,x5⟩
  have y5:=y4.trans x5
  have hb5:=x5.get hb4
  unfold cgrV
  simp only [hb5,za,Value.cells,Value.oneCell',Nat.reduceAdd,Nat.reduceSub,Nat.reduceMul,Nat.reduceLeDiff,Int.reduceEq,Nat.reduceEqDiff,zX]
  refine zb.mono (zlC ac cl a n c es day b2 m2 d2 T gs h5 (hr.ext y5) hn hl (R.ext y5) (L.ext y5) (by omega) (by omega) hfl) ?_
  rintro v h6 ⟨rfl,x6⟩
  have y6:=y5.trans x6
  have hb6:=x6.get hb5
  unfold cgrV
  simp only [hb6,za,Value.cells,Value.oneCell',Nat.reduceAdd,Nat.reduceSub,Nat.reduceMul,Nat.reduceLeDiff,Int.reduceEq,Nat.reduceEqDiff,zX]
  refine zb.mono (fewest49 ac cl a n c es day h6 (hr.ext y6) hn hl) ?_
  rintro v h7 ⟨H7,x7⟩
  have y7:=y6.trans x7
  have hb7:=x7.get hb6
  by_cases e0:opn ac cl es [day]=0
  case neg=>
    rcases H7 with⟨h0,_⟩ | ⟨_,rfl⟩
    · exact absurd h0 e0
    have hd0:=decide_eq_false e0
    simp only [hb7,za,Value.cells,Value.oneCell',Nat.reduceAdd,Nat.reduceSub,Nat.reduceMul,Nat.reduceLeDiff,Int.reduceEq,Nat.reduceEqDiff,zX]
    refine zb.mono (zmi ac cl a n c es day h7 (hr.ext y7) hn hl) ?_
    rintro v h8 ⟨H8,x8⟩
    have y8:=y7.trans x8
    have hb8:=x8.get hb7
    rcases H8 with⟨h0,_⟩ | ⟨_,rfl⟩
    · exact absurd h0 e0
    simp only [hb8,za,Value.cells,Value.oneCell',Nat.reduceAdd,Nat.reduceSub,Nat.reduceMul,Nat.reduceLeDiff,Int.reduceEq,Nat.reduceEqDiff,zX]
    refine zb.mono (zrY ac cl a n c es day h8 (hr.ext y8) hn hl e0) ?_
    rintro v h9 ⟨rfl,x9⟩
    have y9:=y8.trans x9
    have hb9:=x9.get hb8
    simp only [hb9,za,Value.cells,Value.oneCell',Nat.reduceAdd,Nat.reduceSub,Nat.reduceMul,Nat.reduceLeDiff,Int.reduceEq,Nat.reduceEqDiff,zX]
    refine zb.mono (pays62 ac cl a n c es day h9 (hr.ext y9) hn hl) ?_
    rintro v h10 ⟨H10,x10⟩
    have y10:=y9.trans x10
    rcases H10 with⟨h0,_⟩ | ⟨_,rfl⟩
    · exact absurd h0 e0
    simp only [zO,zU,decide_true,Bool.not_true,za,Value.cells,Value.oneCell',Nat.reduceAdd,Nat.reduceSub,Nat.reduceMul,Nat.reduceLeDiff,Int.reduceEq,Nat.reduceEqDiff,zX]
    refine zb.mono (zlt none 0 0 [] h10 (.inl rfl) rfl) ?_
    rintro v h11 ⟨rfl,rfl⟩
    have hw0:zdf []=false:=rfl
    have z30:¬ (30:Int)<0:=by omega
    have z00:((0:Nat):Int)=0:=rfl
    simp only [hw0,z30,z00,hd0,zO,zU,decide_true,decide_false,Bool.not_false,za,Value.cells,Value.oneCell',Nat.reduceAdd,Nat.reduceSub,Nat.reduceMul,Nat.reduceLeDiff,Int.reduceEq,Nat.reduceEqDiff,zX]
    refine zb.mono (wk y10) ?_
    rintro v h12 ⟨rfl,x12⟩
    simp only [za,Value.cells,Value.oneCell',Nat.reduceAdd,Nat.reduceSub,Nat.reduceMul,Nat.reduceLeDiff,Int.reduceEq,Nat.reduceEqDiff,zX]
    exact x12
  obtain⟨hc,hd⟩:=zbZ e0
  obtain⟨ha,hl2,hcl,hok,hso,hft⟩:=zbX hc
  obtain⟨k,rfl⟩:∃ k:Nat,ac=k:=⟨ac.toNat,by omega⟩
  rcases H7 with⟨_,j1,hj1,hj8,rfl⟩ | ⟨h0,_⟩
  case inr=>exact absurd e0 h0
  simp only [hb7,za,Value.cells,Value.oneCell',Nat.reduceAdd,Nat.reduceSub,Nat.reduceMul,Nat.reduceLeDiff,Int.reduceEq,Nat.reduceEqDiff,zX]
  refine zb.mono (zmi k cl a n c es day h7 (hr.ext y7) hn hl) ?_
  rintro v h8 ⟨H8,x8⟩
  have y8:=y7.trans x8
  have hb8:=x8.get hb7
  rcases H8 with⟨_,j2,hj2,rfl⟩ | ⟨h0,_⟩
  case inr=>exact absurd e0 h0
  obtain rfl:=zfW hj1 hj2
  simp only [hb8,za,Value.cells,Value.oneCell',Nat.reduceAdd,Nat.reduceSub,Nat.reduceMul,Nat.reduceLeDiff,Int.reduceEq,Nat.reduceEqDiff,zX]
  refine zb.mono (groups61 k cl a n c es day h8 (hr.ext y8) hn hl e0) ?_
  rintro v h9 ⟨⟨w,rfl,hx,xx,⟨aG,nG,cG,G,rfl,hGl,OG,hB,hS,⟨qs,hpm,hpt⟩,hmost⟩,_⟩,x9⟩
  have y9:=y8.trans x9
  have hb9:=x9.get hb8
  obtain⟨S,hSe⟩:∃ S,S=G.map (·.2):=⟨_,rfl⟩
  have hSl:S.length=nG:=by rw [hSe,List.length_map]; exact hGl
  rw [← hSe] at hpm
  have hS8:=most_8 hpm hpt
  obtain rfl:=zfW hj1 hmost
  have hmS:LS.Most (LS.zero (l8 es day) 8) (LS.msk (LS.opn (l8 es day)) 8) S.length:=by rw [hSl]; exact hmost
  have hf:S.Pairwise fun p q=>(acc p k).getD 0 0≤(acc q k).getD 0 0:=by rw [hSe,List.pairwise_map]; exact hS
  have hgm:=znF e0 hpm hpt hf
  have egs:(S.map fun p=>nz (acc p k))=G.map fun g=>nz (acc g.2 k):=by rw [hSe,List.map_map]; rfl
  simp only [hb9,za,Value.cells,Value.oneCell',Nat.reduceAdd,Nat.reduceSub,Nat.reduceMul,Nat.reduceLeDiff,Int.reduceEq,Nat.reduceEqDiff,zX]
  refine zb.mono (pays62 k cl a n c es day h9 (hr.ext y9) hn hl) ?_
  rintro v h10 ⟨H10,x10⟩
  have y10:=y9.trans x10
  have hb10:=x10.get hb9
  rcases H10 with⟨_,aP,cP,S2,qs2,rfl,RP,hpm2,hpt2,hm2S⟩ | ⟨h0,_⟩
  case inr=>exact absurd e0 h0
  rw [Int.toNat_natCast] at RP ⊢
  obtain⟨hpy,hpl⟩:=zkI e0 hpm2 hpt2 hm2S
  obtain⟨pq,hpq⟩:∃ pq,pq=pysS (l8 es day) k S2:=⟨_,rfl⟩
  rw [← hpq] at RP hpy hpl ⊢
  have hS2:=zfW hm2S hj1
  have hOe:=zeg es day
  have hO:=zbx (bals 8 es day) 8
  simp only [zO,zU,decide_true,Bool.not_true,za,Value.cells,Value.oneCell',Nat.reduceAdd,Nat.reduceSub,Nat.reduceMul,Nat.reduceLeDiff,Int.reduceEq,Nat.reduceEqDiff,zX]
  refine zb.mono (zlt aG j1 cG (G.map (·.1)) h10 (OG.row.ext x10) (by rw [List.length_map]; omega)) ?_
  rintro v h11 ⟨rfl,rfl⟩
  have hw0:=bld_wide hB (by omega) (by omega)
  have z30:¬ (30:Int)<((pq.length:Nat):Int):=by omega
  simp only [hw0,z30,hb10,zO,zU,decide_true,decide_false,Bool.not_true,Bool.not_false,za,Value.cells,Value.oneCell',Nat.reduceAdd,Nat.reduceSub,Nat.reduceMul,Nat.reduceLeDiff,Int.reduceEq,Nat.reduceEqDiff,zX]
  have LL:=(bld_lss hB).ext x10
  have hfl2:=(zom LL hw0).2
  refine zb.mono (zlC k cl a n c es day aG j1 cG (G.map (·.1)) (G.map fun g=>nz (acc g.2 k)) h11 (hr.ext y10) hn hl (OG.row.ext x10) LL (by rw [List.length_map]; omega) (by omega) hfl2) ?_
  rintro v h12 ⟨rfl,x12⟩
  have y12:=y10.trans x12
  have hb12:=x12.get hb10
  unfold cgrV
  rw [← egs,hgm]
  simp only [hb12,za,Value.cells,Value.oneCell',Nat.reduceAdd,Nat.reduceSub,Nat.reduceMul,Nat.reduceLeDiff,Int.reduceEq,Nat.reduceEqDiff,zX]
  refine zb.mono (pays58 k cl a n c es day aP pq.length cP pq h12 (hr.ext y12) hn hl (RP.ext x12) rfl (by omega)) ?_
  rintro v h13 ⟨rfl,x13⟩
  have y13:=y12.trans x13
  have hb13:=x13.get hb12
  unfold cpyV
  rw [hpy]
  simp only [hb13,zO,zU,decide_true,za,Value.cells,Value.oneCell',Nat.reduceAdd,Nat.reduceSub,Nat.reduceMul,Nat.reduceLeDiff,Int.reduceEq,Nat.reduceEqDiff,zX]
  refine zb.mono (zlX k cl a n c es day h13 (hr.ext y13) hn (by omega) hok (by omega) hft) ?_
  rintro v h14 ⟨⟨j3,rfl,hj3⟩,x14⟩
  obtain rfl:=zfW hj1 hj3
  have ej:((S.length:Nat):Int)=((j1:Nat):Int):=by omega
  have ep:((pq.length:Nat):Int)=(LS.opens (l8 es day) 8:Nat) - (j1:Nat):=by omega
  simp only [ej,ep,zO,zU,decide_true,za,Value.cells,Value.oneCell',Nat.reduceAdd,Nat.reduceSub,Nat.reduceMul,Nat.reduceLeDiff,Int.reduceEq,Nat.reduceEqDiff,zX]
  refine zb.mono (wk (y13.trans x14)) ?_
  rintro v h15 ⟨rfl,x15⟩
  simp only [za,Value.cells,Value.oneCell',Nat.reduceAdd,Nat.reduceSub,Nat.reduceMul,Nat.reduceLeDiff,Int.reduceEq,Nat.reduceEqDiff,zX]
  exact x15
end Go.Proofs.YtepaekbjoombpaaGreatDoor
end
section
set_option linter.unusedVariables false
set_option linter.unusedSimpArgs false
namespace Go.Eng
open Go Go.ChangeShapes Go.WideShapes Go.ChangeAt Go.RowKit
section rowkit
variable {P:Program} {H:Type} {enc:TypeId × Value→H}
theorem same_of {W W':World}(x:Ext W.heap W'.heap){p:MemPlace}(hp:p.block<W.heap.size):W.sameAt W' p:=by
  have h:=x.old p.block hp
  cases p with
  | cell b o=>exact World.cell?_of_block (w:=W) h
  | map b=>exact h
theorem trodAll_ext (hl:laidOutB P=true){W W':World}(x:Ext W.heap W'.heap){sp:Nat→Bool}:∀ {ts:List TypeId} {vs:List Value} {ds:List (DataW H)} {ps:List MemPlace},
    (ts.all fun t=>P.readableRec t&&decide (t<P.types.size))=true→DataW.TrodAll enc P W 0 (fun _=>true) true ts vs ds ps→(∀ p∈ps,p.block<W.heap.size)→(∀ p∈ps,sp p.block=true)→DataW.TrodAll enc P W' 0 sp true ts vs ds ps
  | [],[],[],ps,_,h,_,_=>h
  | t::ts,v::vs,d::ds,ps,ht,⟨p,q,h1,h2,he⟩,hb,hs=>by
    subst he
    simp only [List.all_cons,Bool.and_eq_true,decide_eq_true_eq] at ht
    exact⟨p,q,WideElems.Trod_stays hl ht.1.1 ht.1.2 h1 (fun y hy=>same_of x (hb y (by simp [hy]))) (fun y hy=>hs y (by simp [hy])),
      trodAll_ext hl x (by simpa using ht.2) h2 (fun y hy=>hb y (by simp [hy])) (fun y hy=>hs y (by simp [hy])),rfl⟩
theorem calls_ext {f:FuncId}{args:Array Value}{W:World}{b:Bool}(hc:zb P f args W.heap (fun v h'=>v=.bool b∧Ext W.heap h')):Calls P f args W fun e W'=>e=.returned (.bool b)∧Ext W.heap W'.heap∧Rest W W':=by
  unfold zb zbh at hc
  refine Calls.mono (hc.2 W rfl) ?_
  rintro e W' ⟨v,rfl,⟨rfl,x⟩,r⟩
  exact⟨rfl,x,r⟩
end rowkit
end Go.Eng
end
section
namespace Go.Proofs.YtepaekbjoombpaaGreatDoor
open Go Go.Proofs Go.Eng Tab Go.ChangeShapes Go.WideShapes Go.ChangeAt Go.RowKit
set_option maxRecDepth 100000
set_option linter.unusedSimpArgs false
set_option linter.unusedVariables false
theorem row_of {W:World}{a:Addr}{vs:List Value}(hc:∀ i (hi:i<vs.length),W.cell? (a.add i)=some vs[i]):Row W.heap (some a) vs:=by
  by_cases hn:vs.length=0
  · left; exact List.eq_nil_of_length_eq_zero hn
  right
  have key:∀ i u,W.cell? (a.add i)=some u→(i=0→a.spot=none)∧∃ cur ct fr,W.heap[a.block]?=some (.cells cur ct fr)∧cur[a.off+i]?=some u:=by
    intro i u hu
    unfold World.cell? Addr.add at hu
    by_cases hi:i=0
    · subst hi
      simp only [if_true] at hu
      split at hu <;> simp_all
    · simp only [hi,if_false] at hu
      split at hu <;> simp_all
  obtain⟨hsp,cur,ct,fr,hb,_⟩:=key 0 _ (hc 0 (by omega))
  have hcur:∀ i (hi:i<vs.length),cur[a.off+i]?=some vs[i]:=fun i hi=>by
    obtain⟨_,cur2,ct2,fr2,hb2,hc2⟩:=key i _ (hc i hi)
    rw [hb] at hb2
    cases hb2
    exact hc2
  have hsz:a.off+vs.length≤cur.size:=by
    have:=hcur (vs.length - 1) (by omega)
    have:=(Array.getElem?_eq_some_iff.1 this).1
    omega
  obtain⟨b,off,spot⟩:=a
  replace hsp:=hsp rfl
  simp only at hsp hb hcur hsz
  subst hsp
  refine⟨b,off,cur,ct,fr,rfl,hb,hsz,?_⟩
  apply List.ext_getElem?
  intro i
  rw [List.getElem?_take,List.getElem?_drop]
  by_cases hi:i<vs.length
  · rw [if_pos hi,Array.getElem?_toList,hcur i hi,List.getElem?_eq_getElem hi]
  · rw [if_neg hi,List.getElem?_eq_none (by omega)]
theorem zcp {α:Type}{p:Nat→α→Prop}:∀ n,(∀ i<n,∃ x,p i x)→∃ l:List α,l.length=n∧∀ i (hi:i<l.length),p i l[i]
  | 0,_=>⟨[],rfl,fun i hi=>by simp at hi⟩
  | n+1,H=>by
    obtain⟨l,hl,h⟩:=zcp n fun i hi=>H i (by omega)
    obtain⟨x,hx⟩:=H n (by omega)
    refine⟨l++[x],by simp [hl],fun i hi=>?_⟩
    by_cases hin:i<l.length
    · rw [List.getElem_append_left hin]; exact h i hin
    · have:i=l.length:=by simp at hi; omega
      subst this
      rw [List.getElem_append_right (Nat.le_refl _)]
      simpa [hl] using hx
section opens
variable {H:Type} {enc:TypeId × Value→H} {W:World} {base b0:Nat} {r:Reach} {sp:Nat→Bool} {held:Bool} {v:Value} {d:DataW H} {ps:List MemPlace}
theorem cel3:Tryz.prog.cellsOf 3=1:=by kernel_rfl
theorem cel2:Tryz.prog.cellsOf 2=1:=by kernel_rfl
theorem cel22:Tryz.prog.cellsOf 22=1:=by kernel_rfl
theorem cel24:Tryz.prog.cellsOf 24=3:=by kernel_rfl
theorem cel26:Tryz.prog.cellsOf 26=4:=by kernel_rfl
def okEn (e:En):Prop:=(Lit.int .i64 e.d).wf=true∧(Lit.int .i64 e.f).wf=true∧(Lit.int .i64 e.t).wf=true∧(Lit.int .i64 e.a).wf=true
theorem trod_en {fuel:Nat}{cs:List Value}{x:DataW H × List MemPlace}(h:DataW.trod enc Tryz.prog W base sp held fuel 26 cs=some x):∃ e:En,cs=enV e∧okEn e:=by
  obtain⟨xs,n,rfl,rfl,hl,hxl,hf⟩:=DataW.trod_struct Tryz.underlying26 h
  rw [cel26] at hl
  obtain⟨c0,c1,c2,c3,rfl⟩:∃ c0 c1 c2 c3,cs=[c0,c1,c2,c3]:=by
    match cs,hl with
    | [c0,c1,c2,c3],_=>exact⟨_,_,_,_,rfl⟩
  obtain⟨y0,y1,y2,y3,rfl⟩:∃ y0 y1 y2 y3,xs=[y0,y1,y2,y3]:=by
    match xs,hxl with
    | [y0,y1,y2,y3],_=>exact⟨_,_,_,_,rfl⟩
  have f0:DataW.trod enc Tryz.prog W base sp held n 3 (([c0,c1,c2,c3].drop 0).take (Tryz.prog.cellsOf 3))=some y0:=hf 0 _ rfl
  have f1:DataW.trod enc Tryz.prog W base sp held n 3 (([c0,c1,c2,c3].drop 1).take (Tryz.prog.cellsOf 3))=some y1:=hf 1 _ rfl
  have f2:DataW.trod enc Tryz.prog W base sp held n 3 (([c0,c1,c2,c3].drop 2).take (Tryz.prog.cellsOf 3))=some y2:=hf 2 _ rfl
  have f3:DataW.trod enc Tryz.prog W base sp held n 2 (([c0,c1,c2,c3].drop 3).take (Tryz.prog.cellsOf 2))=some y3:=hf 3 _ rfl
  rw [cel3] at f0 f1 f2
  rw [cel2] at f3
  obtain⟨n0,e0,_,w0⟩:=DataW.trod_int Tryz.underlying3 f0
  obtain⟨n1,e1,_,w1⟩:=DataW.trod_int Tryz.underlying3 f1
  obtain⟨n2,e2,_,w2⟩:=DataW.trod_int Tryz.underlying3 f2
  obtain⟨n3,e3,_,w3⟩:=DataW.trod_int Tryz.underlying2 f3
  simp at e0 e1 e2 e3
  subst e0 e1 e2 e3
  exact⟨⟨n0,n1,n2,n3⟩,rfl,w0,w1,w2,w3⟩
theorem trod_row {fuel:Nat}{cs:List Value}{x:DataW H × List MemPlace}(h:DataW.trod enc Tryz.prog W base sp held fuel 22 cs=some x):∃ a n c es,cs=[.slice a n c]∧Row W.heap a (ensV es)∧n=es.length:=by
  rcases DataW.trod_slice Tryz.underlying22 h with⟨rfl,_⟩ | ⟨a,len,cap,elems,rest,m,rfl,rfl,rfl,hb,hl,hm,hlen,hel,_,_⟩
  · exact⟨none,0,0,[],rfl,.inl rfl,rfl⟩
  rw [cel26] at hel
  have each:∀ i,i<len→∃ e:En,∀ k (hk:k<4),W.cell? (a.add (i*4+k))=(enV e)[k]?:=by
    intro i hi
    have h1:=hel i hi
    rw [List.getElem?_eq_getElem (by omega),Option.bind_eq_some_iff] at h1
    obtain⟨cs,h2,h3⟩:=h1
    obtain⟨e,rfl,_⟩:=trod_en h3
    refine⟨e,fun k hk=>?_⟩
    have h4:=(World.cells?_some h2).2.2 k hk
    rw [← h4]
    congr 1
    unfold Addr.add
    split <;> split <;> split <;> simp_all <;> omega
  obtain⟨es,hes,hE⟩:=zcp len each
  refine⟨some a,len,cap,es,rfl,row_of fun i hi=>?_,hes.symm⟩
  rw [zaq] at hi
  have h1:=hE (i / 4) (by omega) (i % 4) (by omega)
  rw [show i / 4*4+i % 4=i by omega] at h1
  rw [h1,← zoR es (i / 4) (i % 4) (by omega) (by omega),show i / 4*4+i % 4=i by omega,List.getElem?_eq_getElem (by rw [zaq]; omega)]
theorem open_book (hval:Value.okWide Tryz.prog W r b0 24 v)(hd:DataW.Trod enc Tryz.prog W base sp held 24 v d ps):∃ ac cl a n c es,v=.agg #[.int .i64 ac,.int .i64 cl,.slice a n c]∧Row W.heap a (ensV es)∧n=es.length:=by
  obtain⟨cs,rfl,hs⟩:=okWide_struct Tryz.underlying24 hval
  obtain⟨fuel,hf⟩:=hd
  obtain⟨xs,n,rfl,_,hl,hxl,hf⟩:=DataW.trod_struct Tryz.underlying24 hf
  rw [cel24] at hl
  simp only [Value.cells] at hl hf
  obtain⟨cs⟩:=cs
  simp only at hl hf
  obtain⟨c0,c1,c2,rfl⟩:∃ c0 c1 c2,cs=[c0,c1,c2]:=by
    match cs,hl with
    | [c0,c1,c2],_=>exact⟨_,_,_,rfl⟩
  obtain⟨y0,y1,y2,rfl⟩:∃ y0 y1 y2,xs=[y0,y1,y2]:=by
    match xs,hxl with
    | [y0,y1,y2],_=>exact⟨_,_,_,rfl⟩
  have f0:DataW.trod enc Tryz.prog W base sp held n 3 (([c0,c1,c2].drop 0).take (Tryz.prog.cellsOf 3))=some y0:=hf 0 _ rfl
  have f1:DataW.trod enc Tryz.prog W base sp held n 3 (([c0,c1,c2].drop 1).take (Tryz.prog.cellsOf 3))=some y1:=hf 1 _ rfl
  have f2:DataW.trod enc Tryz.prog W base sp held n 22 (([c0,c1,c2].drop 2).take (Tryz.prog.cellsOf 22))=some y2:=hf 2 _ rfl
  rw [cel3] at f0 f1
  rw [cel22] at f2
  obtain⟨n0,e0,_,w0⟩:=DataW.trod_int Tryz.underlying3 f0
  obtain⟨n1,e1,_,w1⟩:=DataW.trod_int Tryz.underlying3 f1
  obtain⟨a,m,c,es,e2,hr,hm⟩:=trod_row f2
  simp at e0 e1 e2
  subst e0 e1 e2
  exact⟨n0,n1,a,m,c,es,rfl,hr,hm⟩
end opens
end Go.Proofs.YtepaekbjoombpaaGreatDoor
end
section
namespace Go.Proofs.YtepaekbjoombpaaGreatDoor
open Go Go.Proofs Go.Eng Tab Go.ChangeShapes Go.WideShapes Go.ChangeAt Go.RowKit
set_option maxRecDepth 100000
set_option linter.unusedSimpArgs false
set_option linter.unusedVariables false
section opens
variable {H:Type} {enc:TypeId × Value→H} {W:World} {base b0:Nat} {r:Reach} {sp:Nat→Bool} {held:Bool} {v:Value} {d:DataW H} {ps:List MemPlace}
theorem cel139:Tryz.prog.cellsOf 139=3:=by kernel_rfl
theorem cel40:Tryz.prog.cellsOf 40=1:=by kernel_rfl
theorem trod_pm {fuel:Nat}{cs:List Value}{x:DataW H × List MemPlace}(h:DataW.trod enc Tryz.prog W base sp held fuel 139 cs=some x):∃ p:Pm,cs=pmV p:=by
  obtain⟨xs,n,rfl,rfl,hl,hxl,hf⟩:=DataW.trod_struct Tryz.underlying139 h
  rw [cel139] at hl
  obtain⟨c0,c1,c2,rfl⟩:∃ c0 c1 c2,cs=[c0,c1,c2]:=by
    match cs,hl with
    | [c0,c1,c2],_=>exact⟨_,_,_,rfl⟩
  obtain⟨y0,y1,y2,rfl⟩:∃ y0 y1 y2,xs=[y0,y1,y2]:=by
    match xs,hxl with
    | [y0,y1,y2],_=>exact⟨_,_,_,rfl⟩
  have f0:DataW.trod enc Tryz.prog W base sp held n 3 (([c0,c1,c2].drop 0).take (Tryz.prog.cellsOf 3))=some y0:=hf 0 _ rfl
  have f1:DataW.trod enc Tryz.prog W base sp held n 3 (([c0,c1,c2].drop 1).take (Tryz.prog.cellsOf 3))=some y1:=hf 1 _ rfl
  have f2:DataW.trod enc Tryz.prog W base sp held n 2 (([c0,c1,c2].drop 2).take (Tryz.prog.cellsOf 2))=some y2:=hf 2 _ rfl
  rw [cel3] at f0 f1
  rw [cel2] at f2
  obtain⟨n0,e0,_,w0⟩:=DataW.trod_int Tryz.underlying3 f0
  obtain⟨n1,e1,_,w1⟩:=DataW.trod_int Tryz.underlying3 f1
  obtain⟨n2,e2,_,w2⟩:=DataW.trod_int Tryz.underlying2 f2
  simp at e0 e1 e2
  subst e0 e1 e2
  exact⟨⟨n0,n1,n2⟩,rfl⟩
theorem open_pays (hval:Value.okWide Tryz.prog W r b0 77 v)(hd:DataW.Trod enc Tryz.prog W base sp held 77 v d ps):∃ a n c qs,v=.slice a n c∧Row W.heap a (pmsV qs)∧n=qs.length:=by
  obtain⟨a0,n0,c0,rfl⟩:=okWide_slice Tryz.underlying77 hval
  obtain⟨fuel,h⟩:=hd
  rcases DataW.trod_slice Tryz.underlying77 h with⟨hcs,_⟩ | ⟨a,len,cap,elems,rest,m,_,hcs,_,hb,hl,hm,hlen,hel,_,_⟩
  · simp [Value.cells] at hcs
    obtain⟨rfl,rfl,rfl⟩:=hcs
    exact⟨none,0,0,[],rfl,.inl rfl,rfl⟩
  simp [Value.cells] at hcs
  obtain⟨rfl,rfl,rfl⟩:=hcs
  rw [cel139] at hel
  have each:∀ i,i<n0→∃ p:Pm,∀ k (hk:k<3),W.cell? (a.add (i*3+k))=(pmV p)[k]?:=by
    intro i hi
    have h1:=hel i hi
    rw [List.getElem?_eq_getElem (by omega),Option.bind_eq_some_iff] at h1
    obtain⟨cs,h2,h3⟩:=h1
    obtain⟨p,rfl⟩:=trod_pm h3
    refine⟨p,fun k hk=>?_⟩
    have h4:=(World.cells?_some h2).2.2 k hk
    rw [← h4]
    congr 1
    unfold Addr.add
    split <;> split <;> split <;> simp_all <;> omega
  obtain⟨qs,hqs,hE⟩:=zcp n0 each
  refine⟨some a,n0,c0,qs,rfl,row_of fun i hi=>?_,hqs.symm⟩
  rw [zaI] at hi
  have h1:=hE (i / 3) (by omega) (i % 3) (by omega)
  rw [show i / 3*3+i % 3=i by omega] at h1
  rw [h1,← zoD qs (i / 3) (i % 3) (by omega) (by omega),show i / 3*3+i % 3=i by omega,List.getElem?_eq_getElem (by rw [zaI]; omega)]
theorem zr6 {fuel:Nat}{cs:List Value}{x:DataW H × List MemPlace}(h:DataW.trod enc Tryz.prog W base sp held fuel 40 cs=some x):∃ (t:Hd) (xs:List Int),cs=[hdV t]∧zJ W.heap t.1 t.2.1 xs:=by
  rcases DataW.trod_slice Tryz.underlying40 h with⟨rfl,_⟩ | ⟨a,len,cap,elems,rest,m,rfl,rfl,rfl,hb,hl,hm,hlen,hel,_,_⟩
  · exact⟨(none,0,0),[],rfl,zJ.nil _⟩
  rw [cel3] at hel
  have each:∀ i,i<len→∃ z:Int,W.cell? (a.add i)=some (.int .i64 z):=by
    intro i hi
    have h1:=hel i hi
    rw [List.getElem?_eq_getElem (by omega),Option.bind_eq_some_iff] at h1
    obtain⟨cs,h2,h3⟩:=h1
    obtain⟨z,e0,_,w0⟩:=DataW.trod_int Tryz.underlying3 h3
    subst e0
    refine⟨z,?_⟩
    have h4:=(World.cells?_some h2).2.2 0 (by decide)
    rw [Nat.mul_one] at h4
    have e5:(a.add i).add 0=a.add i:=by
      unfold Addr.add
      split <;> simp_all
    rw [e5] at h4
    exact h4
  obtain⟨zs,hzs,hE⟩:=zcp len each
  refine⟨(some a,len,cap),zs,rfl,hzs.symm,row_of fun i hi=>?_⟩
  rw [zl] at hi
  rw [hE i hi]
  simp [Eng.ints]
theorem open_lists (hval:Value.okWide Tryz.prog W r b0 73 v)(hd:DataW.Trod enc Tryz.prog W base sp held 73 v d ps):∃ a n c T gs,v=.slice a n c∧Row W.heap a (hdsV T)∧n=T.length∧Lss W.heap T gs:=by
  obtain⟨a0,n0,c0,rfl⟩:=okWide_slice Tryz.underlying73 hval
  obtain⟨fuel,h⟩:=hd
  rcases DataW.trod_slice Tryz.underlying73 h with⟨hcs,_⟩ | ⟨a,len,cap,elems,rest,m,_,hcs,_,hb,hl,hm,hlen,hel,_,_⟩
  · simp [Value.cells] at hcs
    obtain⟨rfl,rfl,rfl⟩:=hcs
    exact⟨none,0,0,[],[],rfl,.inl rfl,rfl,rfl,fun i hi=>by simp at hi⟩
  simp [Value.cells] at hcs
  obtain⟨rfl,rfl,rfl⟩:=hcs
  rw [cel40] at hel
  have each:∀ i,i<n0→∃ q:Hd × List Int,W.cell? (a.add i)=some (hdV q.1)∧zJ W.heap q.1.1 q.1.2.1 q.2:=by
    intro i hi
    have h1:=hel i hi
    rw [List.getElem?_eq_getElem (by omega),Option.bind_eq_some_iff] at h1
    obtain⟨cs,h2,h3⟩:=h1
    obtain⟨t,xs,rfl,hI⟩:=zr6 h3
    refine⟨(t,xs),?_,hI⟩
    have h4:=(World.cells?_some h2).2.2 0 (by simp)
    rw [Nat.mul_one] at h4
    have e5:(a.add i).add 0=a.add i:=by
      unfold Addr.add
      split <;> simp_all
    rw [e5] at h4
    exact h4
  obtain⟨Q,hQ,hE⟩:=zcp n0 each
  refine⟨some a,n0,c0,Q.map (·.1),Q.map (·.2),rfl,row_of fun i hi=>?_,by rw [List.length_map]; exact hQ.symm,by rw [List.length_map,List.length_map],fun i hi=>?_⟩
  · rw [zF,List.length_map] at hi
    rw [(hE i hi).1]
    simp [hdsV]
  · rw [List.length_map] at hi
    rw [List.getD_eq_getElem?_getD,List.getElem?_eq_getElem (by rw [List.length_map]; exact hi),List.getElem_map,List.getD_eq_getElem?_getD,List.getElem?_eq_getElem (by rw [List.length_map]; exact hi),List.getElem_map]
    exact (hE i hi).2
end opens
end Go.Proofs.YtepaekbjoombpaaGreatDoor
end
