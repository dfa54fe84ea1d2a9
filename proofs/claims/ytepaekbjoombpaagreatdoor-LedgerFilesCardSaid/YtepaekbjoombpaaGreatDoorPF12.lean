/- Texts joined by pack.py: lemmas for YtepaekbjoombpaaGreatDoorFiles. No condition. -/
import Derived.Test.YtepaekbjoombpaaGreatDoorPF11
import Derived.Lib.LaidTab
import Derived.MakeChecks
import Derived.Stop.LaidErr
import Derived.Test.YtepaekbjoombpaaGreatDoorRows
import Derived.ProofKit
import Derived.OpenShut
import Derived.Below
import Derived.WideKeyArgs
import Derived.ChangeSlices
set_option linter.unusedSimpArgs false
set_option linter.unusedVariables false
set_option linter.defProp false
section
namespace Go.Proofs.YtepaekbjoombpaaGreatDoor
open Go Go.Proofs Go.Run Go.Eng
set_option maxRecDepth 100000
@[reducible] noncomputable def M:Fm:=⟨zba Pt.ff18.nt,Pt.ff18.nt⟩
noncomputable def E1:E:=fromE M [(0,.bool false),(1,.ptr 5 0),(2,.slice 56 0 4 4),(3,.int .i64 0),(5,.int .i64 3),(6,.own 170 2),(7,.int .i64 0),(9,.int .i64 2),(10,.ptr 219 0),(11,.int .i64 0),(13,.int .i64 25),(15,.int .i64 16),(16,.ptr 475 0),(17,.int .i64 0),(19,.int .i64 16),(21,.int .i64 2),(22,.ptr 612 0),(23,.int .i64 0)] (.leaf .any)
noncomputable def S1:S:=⟨fromV [(4,.row [.int .i64 1,.int .i64 0,.int .i64 1,.int .i64 5,.int .i64 3,.int .i64 1,.int .i64 2,.int .i64 3,.int .i64 3,.int .i64 2,.int .i64 0,.int .i64 1] 26 false),(5,.row [.int .i64 4,.int .i64 2,.slice 4 0 3 3] 24 false),(56,.row [.int .i64 (-4),.int .i64 2,.int .i64 2,.int .i64 0] 2 false),(170,.row [.int .i64 1,.int .i64 2] 3 true),(219,.row [.int .i64 4,.int .i64 2,.own 275 4] 24 false),(275,.row [.int .i64 1,.int .i64 0,.int .i64 1,.int .i64 5,.int .i64 3,.int .i64 1,.int .i64 2,.int .i64 3,.int .i64 3,.int .i64 2,.int .i64 0,.int .i64 1,.int .i64 3,.int .i64 3,.int .i64 0,.int .i64 4] 26 true),(474,.row [.int .i64 1,.int .i64 0,.int .i64 1,.int .i64 5,.int .i64 3,.int .i64 1,.int .i64 2,.int .i64 3,.int .i64 3,.int .i64 2,.int .i64 0,.int .i64 1,.int .i64 4,.int .i64 2,.int .i64 1,.int .i64 3] 26 true),(475,.row [.int .i64 4,.int .i64 2,.own 474 4] 24 false),(611,.row [.int .i64 1,.int .i64 0,.int .i64 1,.int .i64 5,.int .i64 3,.int .i64 1,.int .i64 2,.int .i64 3,.int .i64 3,.int .i64 2,.int .i64 0,.int .i64 1] 26 true),(612,.row [.int .i64 4,.int .i64 3,.own 611 3] 24 false)] (.leaf none),613,0⟩
theorem c0:seg Pt.pr 1000000 M ((segs Pt.ff18.body).take 13) [0,1,2,3,5,6,7,9,10,11,13,15,16,17,19,21,22,23] [4,5,56,170,219,275,474,475,611,612] (.leaf zae) [] s0=some (E1,[],S1):=by kernel_rfl
noncomputable def E2:E:=fromE M [(0,.bool false),(1,.ptr 5 0),(2,.slice 56 0 4 4),(3,.int .i64 0),(5,.int .i64 3),(6,.own 170 2),(7,.int .i64 0),(9,.int .i64 2),(10,.ptr 219 0),(11,.int .i64 0),(13,.int .i64 25),(15,.int .i64 16),(16,.ptr 475 0),(17,.int .i64 0),(19,.int .i64 16),(21,.int .i64 2),(22,.ptr 612 0),(23,.int .i64 0),(25,.int .i64 25),(26,.int .i64 1),(27,.int .i64 0),(29,.int .i64 14),(30,.int .i64 2),(31,.int .i64 0),(32,.int .i64 2),(33,.int .i64 0)] (.leaf .any)
noncomputable def S2:S:=⟨fromV [(4,.row [.int .i64 1,.int .i64 0,.int .i64 1,.int .i64 5,.int .i64 3,.int .i64 1,.int .i64 2,.int .i64 3,.int .i64 3,.int .i64 2,.int .i64 0,.int .i64 1] 26 false),(5,.row [.int .i64 4,.int .i64 2,.slice 4 0 3 3] 24 false),(56,.row [.int .i64 (-4),.int .i64 2,.int .i64 2,.int .i64 0] 2 false),(170,.row [.int .i64 1,.int .i64 2] 3 true),(219,.row [.int .i64 4,.int .i64 2,.own 275 4] 24 false),(275,.row [.int .i64 1,.int .i64 0,.int .i64 1,.int .i64 5,.int .i64 3,.int .i64 1,.int .i64 2,.int .i64 3,.int .i64 3,.int .i64 2,.int .i64 0,.int .i64 1,.int .i64 3,.int .i64 3,.int .i64 0,.int .i64 4] 26 true),(474,.row [.int .i64 1,.int .i64 0,.int .i64 1,.int .i64 5,.int .i64 3,.int .i64 1,.int .i64 2,.int .i64 3,.int .i64 3,.int .i64 2,.int .i64 0,.int .i64 1,.int .i64 4,.int .i64 2,.int .i64 1,.int .i64 3] 26 true),(475,.row [.int .i64 4,.int .i64 2,.own 474 4] 24 false),(611,.row [.int .i64 1,.int .i64 0,.int .i64 1,.int .i64 5,.int .i64 3,.int .i64 1,.int .i64 2,.int .i64 3,.int .i64 3,.int .i64 2,.int .i64 0,.int .i64 1] 26 true),(612,.row [.int .i64 4,.int .i64 3,.own 611 3] 24 false)] (.leaf none),1025,0⟩
theorem c1:seg Pt.pr 1000000 M (((segs Pt.ff18.body).drop 13).take 5) [0,1,2,3,5,6,7,9,10,11,13,15,16,17,19,21,22,23,25,26,27,29,30,31,32,33] [4,5,56,170,219,275,474,475,611,612] E1 [] S1=some (E2,[],S2):=by kernel_rfl
noncomputable def E3:E:=fromE M [(0,.bool false),(1,.ptr 5 0),(2,.slice 56 0 4 4),(3,.int .i64 0),(5,.int .i64 3),(6,.own 170 2),(7,.int .i64 0),(9,.int .i64 2),(10,.ptr 219 0),(11,.int .i64 0),(13,.int .i64 25),(15,.int .i64 16),(16,.ptr 475 0),(17,.int .i64 0),(19,.int .i64 16),(21,.int .i64 2),(22,.ptr 612 0),(23,.int .i64 0),(25,.int .i64 25),(26,.int .i64 1),(27,.int .i64 0),(29,.int .i64 14),(30,.int .i64 2),(31,.int .i64 0),(32,.int .i64 2),(33,.int .i64 0),(35,.int .i64 25),(36,.own 1241 2),(37,.int .i64 0),(38,.str [102]),(39,.int .i64 0),(40,.int .i64 0),(41,.int .i64 14),(42,.int .i64 8),(43,.str [52,32,50,32,101,10,49,32,48,32,49,32,53,32,102,10,51,32,49,32,50,32,51,32,98,10,51,32,50,32,48,32,49,32,103,10,51,32,57,32,108,10]),(44,.int .i64 0)] (.leaf .any)
noncomputable def S3:S:=⟨fromV [(4,.row [.int .i64 1,.int .i64 0,.int .i64 1,.int .i64 5,.int .i64 3,.int .i64 1,.int .i64 2,.int .i64 3,.int .i64 3,.int .i64 2,.int .i64 0,.int .i64 1] 26 false),(5,.row [.int .i64 4,.int .i64 2,.slice 4 0 3 3] 24 false),(56,.row [.int .i64 (-4),.int .i64 2,.int .i64 2,.int .i64 0] 2 false),(170,.row [.int .i64 1,.int .i64 2] 3 true),(219,.row [.int .i64 4,.int .i64 2,.own 275 4] 24 false),(275,.row [.int .i64 1,.int .i64 0,.int .i64 1,.int .i64 5,.int .i64 3,.int .i64 1,.int .i64 2,.int .i64 3,.int .i64 3,.int .i64 2,.int .i64 0,.int .i64 1,.int .i64 3,.int .i64 3,.int .i64 0,.int .i64 4] 26 true),(474,.row [.int .i64 1,.int .i64 0,.int .i64 1,.int .i64 5,.int .i64 3,.int .i64 1,.int .i64 2,.int .i64 3,.int .i64 3,.int .i64 2,.int .i64 0,.int .i64 1,.int .i64 4,.int .i64 2,.int .i64 1,.int .i64 3] 26 true),(475,.row [.int .i64 4,.int .i64 2,.own 474 4] 24 false),(611,.row [.int .i64 1,.int .i64 0,.int .i64 1,.int .i64 5,.int .i64 3,.int .i64 1,.int .i64 2,.int .i64 3,.int .i64 3,.int .i64 2,.int .i64 0,.int .i64 1] 26 true),(612,.row [.int .i64 4,.int .i64 3,.own 611 3] 24 false),(1241,.row [.int .i64 1,.int .i64 0,.int .i64 4,.int .i64 2,.int .i64 1,.int .i64 2] 139 true)] (.leaf none),1385,0⟩
theorem c2:seg Pt.pr 1000000 M ((((segs Pt.ff18.body).drop 13).drop 5).take 5) [0,1,2,3,5,6,7,9,10,11,13,15,16,17,19,21,22,23,25,26,27,29,30,31,32,33,35,36,37,38,39,40,41,42,43,44] [4,5,56,170,219,275,474,475,611,612,1241] E2 [] S2=some (E3,[],S3):=by kernel_rfl
theorem c3:lastB Pt.pr 1000000 M Pt.ff18.res ((((segs Pt.ff18.body).drop 13).drop 5).drop 5) E3 [] S3=true:=by kernel_rfl
theorem works18 (h:Eng.Heap):zb Tryz.prog 18 #[] h (fun v h'=>v=.bool true∧Ext h h'):=
  zlt Pt.ok Pt.lb (f:=18) (fi:=Pt.ff18) (by kernel_rfl) (by decide +kernel) (.next 13 _ _ c0 (.next 5 _ _ c1 (.next 5 _ _ c2 (.last c3)))) h
end Go.Proofs.YtepaekbjoombpaaGreatDoor
end
section
namespace Go.Proofs.YtepaekbjoombpaaGreatDoor
open Go Go.Proofs Go.Eng Go.Run Tab
set_option maxRecDepth 100000
set_option linter.unusedSimpArgs false
set_option linter.unusedVariables false
set_option linter.defProp false
set_option maxHeartbeats 4000000
set_option linter.defProp false
def zaY:=(And.intro (And.intro @zg1 @zg0) (And.intro @sz24 (And.intro @zjP @Tryz.underlying9)))
noncomputable def ldA (s:ByteArray):Int:=if ldE s=0 then (zbE (lnsB s):Int) else 0
noncomputable def ldZ (s:ByteArray):Int:=if ldE s=0 then (zdd (lnsB s):Int) else 0
noncomputable def ldX (s:ByteArray):List En:=if ldE s=0 then esOf (lnsB s) else []
theorem LdP.norm {s:ByteArray}{v:Value}{h:Eng.Heap}(H:LdP s v h):∃ a n c,v=.tuple #[.agg #[.int .i64 (ldA s),.int .i64 (ldZ s),.slice a n c],.int .i64 (ldE s)]∧n=(ldX s).length∧Row h a (ensV (ldX s)):=by
  unfold ldA ldZ ldX
  rcases H with⟨h0,a,n,c,h1,h2,h3⟩ | ⟨h0,h1⟩
  · rw [if_pos h0,if_pos h0,if_pos h0,h0]
    exact⟨a,n,c,h1,h2,h3⟩
  · rw [if_neg h0,if_neg h0,if_neg h0]
    exact⟨none,0,0,h1,rfl,.inl rfl⟩
theorem lns_le (s:ByteArray):(lnsB s).length≤s.size+1:=by
  unfold lnsB
  rw [List.length_map,zcv]
  have h1:=List.count_le_length (a:=(10:UInt8)) (l:=bl (s.extract 0 (s.size - 1)))
  rw [zz] at h1
  by_cases h0:s.size=0
  · have:(s.extract 0 (s.size - 1)).size≤s.size:=by rw [zbI _ _ _ (by omega) (by omega)]; omega
    omega
  · rw [zbI _ _ _ (by omega) (by omega)] at h1
    omega
theorem ldX_le (s:ByteArray):(ldX s).length≤s.size:=by
  unfold ldX
  split
  · rw [zcx]
    have:=lns_le s
    omega
  · exact Nat.zero_le _
theorem zoH (acc cl:Int)(es:List En):∃ fs fe,filV acc cl es=.tuple #[.string fs,.int .i64 fe]:=by
  unfold filV
  split
  · exact⟨_,_,rfl⟩
  · exact⟨_,_,rfl⟩
theorem files6 (acc cl:Int)(a:Option Addr)(n c:Nat)(es:List En)(s:ByteArray)(h:Eng.Heap)(F:Fx h)(hr:Row h a (ensV es))(hn:n=es.length) :
    zb Tryz.prog 6 #[.agg #[.int .i64 acc,.int .i64 cl,.slice a n c],.string s] h (fun v h'=>v=.bool true∧Ext h h'):=by
  have works:∀ {h2:Eng.Heap},Ext h h2→zb Tryz.prog 18 #[] h2 (fun v h'=>v=.bool true∧Ext h h'):=fun x=>zb.mono (works18 _) fun v h' q=>⟨q.1,x.trans q.2⟩
  (refine zg Tryz.func6 rfl bod6 ?_; simp only [Tryz.ntmps6,Tryz.results6,za,zm,splice,Value.cells,Value.oneCell',Nat.reduceAdd,Nat.reduceSub,Nat.reduceMul,Nat.reduceLeDiff,Int.reduceEq,Nat.reduceEqDiff,zaY])
  have x0:Ext h (h.push (.cells #[.int .i64 acc,.int .i64 cl,.slice a n c] 24)):=(Ext.refl h).push _
  have t0:=zy (h:=h) (o:=.cells #[.int .i64 acc,.int .i64 cl,.slice a n c] 24)
  obtain⟨h0,hh0⟩:∃ h0,h0=h.push (.cells #[.int .i64 acc,.int .i64 cl,.slice a n c] 24):=⟨_,rfl⟩
  rw [← hh0] at x0 t0 ⊢
  refine zb.mono (great17 acc cl a n c h0) ?_
  rintro v h1 ⟨rfl,x1⟩
  have y1:=x0.trans x1
  have t1:=x1.get t0
  by_cases h26:26<n
  · have hd:decide (26<(n:Int))=true:=decide_eq_true (by omega)
    simp only [hd,zi,za,Value.cells,Value.oneCell',Nat.reduceAdd,Nat.reduceSub,Nat.reduceMul,Nat.reduceLeDiff,Int.reduceEq,Nat.reduceEqDiff,zaY]
    refine zb.mono (works y1) ?_
    rintro v h2 ⟨rfl,x2⟩
    simp only [za,Value.cells,Value.oneCell',Nat.reduceAdd,Nat.reduceSub,Nat.reduceMul,Nat.reduceLeDiff,Int.reduceEq,Nat.reduceEqDiff,zaY]
    exact x2
  have hd:decide (26<(n:Int))=false:=decide_eq_false (by omega)
  by_cases h7:700<s.size
  · have hd7:decide ((700:Int)<(s.size:Int))=true:=decide_eq_true (by omega)
    simp only [hd,hd7,zi,za,Value.cells,Value.oneCell',Nat.reduceAdd,Nat.reduceSub,Nat.reduceMul,Nat.reduceLeDiff,Int.reduceEq,Nat.reduceEqDiff,zaY]
    refine zb.mono (works y1) ?_
    rintro v h2 ⟨rfl,x2⟩
    simp only [za,Value.cells,Value.oneCell',Nat.reduceAdd,Nat.reduceSub,Nat.reduceMul,Nat.reduceLeDiff,Int.reduceEq,Nat.reduceEqDiff,zaY]
    exact x2
  have hd7:decide ((700:Int)<(s.size:Int))=false:=decide_eq_false (by omega)
  simp only [hd,hd7,t1,zi,za,Value.cells,Value.oneCell',Nat.reduceAdd,Nat.reduceSub,Nat.reduceMul,Nat.reduceLeDiff,Int.reduceEq,Nat.reduceEqDiff,zaY]
  obtain⟨fs,fe,hf⟩:=zoH acc cl es
  refine zb.mono (file38 acc cl a n c es h1 (F.ext y1) (hr.ext y1) hn (by omega)) ?_
  rintro v h2 ⟨rfl,x2⟩
  have y2:=y1.trans x2
  have t2:=x2.get t1
  rw [hf]
  simp only [t2,za,Value.cells,Value.oneCell',Nat.reduceAdd,Nat.reduceSub,Nat.reduceMul,Nat.reduceLeDiff,Int.reduceEq,Nat.reduceEqDiff,zaY]
  refine zb.mono (file39 acc cl a n c es h2 (F.ext y2) (hr.ext y2) hn (by omega)) ?_
  rintro v h3 ⟨rfl,x3⟩
  have y3:=y2.trans x3
  rw [hf]
  simp only [za,Value.cells,Value.oneCell',Nat.reduceAdd,Nat.reduceSub,Nat.reduceMul,Nat.reduceLeDiff,Int.reduceEq,Nat.reduceEqDiff,zaY]
  refine zb.mono (load40 s h3 (F.ext y3) (by omega)) ?_
  rintro v h4 ⟨L4,x4⟩
  have y4:=y3.trans x4
  obtain⟨a4,n4,c4,rfl,l4,r4⟩:=L4.norm
  simp only [za,zm,splice,Value.cells,Value.oneCell',Nat.reduceAdd,Nat.reduceSub,Nat.reduceMul,Nat.reduceLeDiff,Int.reduceEq,Nat.reduceEqDiff,zaY]
  have x5:Ext h4 (h4.push (.cells #[.int .i64 (ldA s),.int .i64 (ldZ s),.slice a4 n4 c4] 24)):=(Ext.refl h4).push _
  have b4:=zy (h:=h4) (o:=.cells #[.int .i64 (ldA s),.int .i64 (ldZ s),.slice a4 n4 c4] 24)
  refine zb.mono (load41 s _ (by omega)) ?_
  rintro v h6 ⟨L6,x6⟩
  have y6:=(y4.trans x5).trans x6
  obtain⟨a6,n6,c6,rfl,l6,r6⟩:=L6.norm
  have hx:=ldX_le s
  have b6:=x6.get b4
  have x7:Ext h6 (h6.push (.cells #[.int .i64 (ldA s),.int .i64 (ldZ s),.slice a6 n6 c6] 24)):=(Ext.refl h6).push _
  have b7:=zy (h:=h6) (o:=.cells #[.int .i64 (ldA s),.int .i64 (ldZ s),.slice a6 n6 c6] 24)
  have ne7:¬ h4.size=h6.size:=by
    have:=x6.size
    rw [Array.size_push] at this
    omega
  simp only [b6,ne7,if_false,zi,decide_true,za,zm,splice,Value.cells,Value.oneCell',Nat.reduceAdd,Nat.reduceSub,Nat.reduceMul,Nat.reduceLeDiff,Int.reduceEq,Nat.reduceEqDiff,zaY]
  refine zb.mono (same27 (ldA s) (ldZ s) (ldA s) (ldZ s) a4 a6 n4 c4 n6 c6 (ldX s) (ldX s) _ ((r4.ext (x5.trans x6)).ext x7) (r6.ext x7) l4 l6 (by omega) (by omega)) ?_
  rintro v h8 ⟨rfl,x8⟩
  simp only [zi,true_and,decide_true,za,Value.cells,Value.oneCell',Nat.reduceAdd,Nat.reduceSub,Nat.reduceMul,Nat.reduceLeDiff,Int.reduceEq,Nat.reduceEqDiff,zaY]
  refine zb.mono (works ((y6.trans x7).trans x8)) ?_
  rintro v h9 ⟨rfl,x9⟩
  simp only [za,Value.cells,Value.oneCell',Nat.reduceAdd,Nat.reduceSub,Nat.reduceMul,Nat.reduceLeDiff,Int.reduceEq,Nat.reduceEqDiff,zaY]
  exact x9
end Go.Proofs.YtepaekbjoombpaaGreatDoor
end
section
namespace Go.Proofs.YtepaekbjoombpaaGreatDoor
open Go Go.Proofs Go.Eng Go.Run
set_option maxRecDepth 100000
theorem zl7 : "*" ++ "errors.errorString" = "*errors.errorString" := by decide
theorem row260 (u : TypeId) (h : Tryz.prog.typeName? 3 u = some "*errors.errorString") : u = 260 :=
  typeName_ptr_named (nm := "errors.errorString") (by rw [zl7]; kernel_rfl) (by kernel_rfl) (by decide) u (by rw [zl7]; exact h)
theorem fx_of {W : World} {a b c e f : String × DataW Unit} (h : laidMet Tryz.prog [a, b, ("internal/strconv.uint64pow10", Rows.laid_internal_strconv_uint64pow10), c, e, ("strconv.ErrSyntax", Rows.laid_strconv_ErrSyntax), f] W) : Fx W.heap := by
  refine⟨?_,?_⟩
  · exact Lib.tabIs_of_head (k:=.u64) (zs:=Lib.pow10Tab) (g:=1) (t:=236) (e:=205) (n:=20) (by kernel_rfl) (by kernel_rfl) (by kernel_rfl) (by kernel_rfl) (by kernel_rfl) (by kernel_rfl) h.tail.tail
  · obtain⟨x,s,hv,-,-,-⟩:=laid_sentinel (g:=2) (ti:=117) (tp:=260) (te:=262) (ts:=9) h.tail.tail.tail.tail.tail (by kernel_rfl) (by kernel_rfl) Tryz.underlying117 row260 Tryz.underlying260 Tryz.underlying262 rfl rfl Tryz.underlying9 (by kernel_rfl) (by kernel_rfl)
    exact⟨260,_,hv⟩
end Go.Proofs.YtepaekbjoombpaaGreatDoor
end
section
set_option linter.unusedVariables false
set_option linter.unusedSimpArgs false
namespace Go.Eng
open Go Go.ChangeShapes Go.WideShapes Go.ChangeAt Go.RowKit
section rowkit
variable {P:Program} {H:Type} {enc:TypeId × Value→H}
theorem same_of {W W':World}(x:Ext W.heap W'.heap){p:MemPlace}(hp:p.block<W.heap.size):W.sameAt W' p:=by
  have h:=x.old p.block hp
  cases p with
  | cell b o=>exact World.cell?_of_block (w:=W) h
  | map b=>exact h
theorem trodAll_ext (hl:laidOutB P=true){W W':World}(x:Ext W.heap W'.heap){sp:Nat→Bool}:∀ {ts:List TypeId} {vs:List Value} {ds:List (DataW H)} {ps:List MemPlace},
    (ts.all fun t=>P.readableRec t&&decide (t<P.types.size))=true→DataW.TrodAll enc P W 0 (fun _=>true) true ts vs ds ps→(∀ p∈ps,p.block<W.heap.size)→(∀ p∈ps,sp p.block=true)→DataW.TrodAll enc P W' 0 sp true ts vs ds ps
  | [],[],[],ps,_,h,_,_=>h
  | t::ts,v::vs,d::ds,ps,ht,⟨p,q,h1,h2,he⟩,hb,hs=>by
    subst he
    simp only [List.all_cons,Bool.and_eq_true,decide_eq_true_eq] at ht
    exact⟨p,q,WideElems.Trod_stays hl ht.1.1 ht.1.2 h1 (fun y hy=>same_of x (hb y (by simp [hy]))) (fun y hy=>hs y (by simp [hy])),
      trodAll_ext hl x (by simpa using ht.2) h2 (fun y hy=>hb y (by simp [hy])) (fun y hy=>hs y (by simp [hy])),rfl⟩
theorem calls_ext {f:FuncId}{args:Array Value}{W:World}{b:Bool}(hc:zb P f args W.heap (fun v h'=>v=.bool b∧Ext W.heap h')):Calls P f args W fun e W'=>e=.returned (.bool b)∧Ext W.heap W'.heap∧Rest W W':=by
  unfold zb zaR at hc
  refine Calls.mono (hc.2 W rfl) ?_
  rintro e W' ⟨v,rfl,⟨rfl,x⟩,r⟩
  exact⟨rfl,x,r⟩
end rowkit
end Go.Eng
end
section
namespace Go.Proofs.YtepaekbjoombpaaGreatDoor
open Go Go.Proofs Go.Eng Tab Go.ChangeShapes Go.WideShapes Go.ChangeAt Go.RowKit
set_option maxRecDepth 100000
set_option linter.unusedSimpArgs false
set_option linter.unusedVariables false
theorem row_of {W:World}{a:Addr}{vs:List Value}(hc:∀ i (hi:i<vs.length),W.cell? (a.add i)=some vs[i]):Row W.heap (some a) vs:=by
  by_cases hn:vs.length=0
  · left; exact List.eq_nil_of_length_eq_zero hn
  right
  have key:∀ i u,W.cell? (a.add i)=some u→(i=0→a.spot=none)∧∃ cur ct fr,W.heap[a.block]?=some (.cells cur ct fr)∧cur[a.off+i]?=some u:=by
    intro i u hu
    unfold World.cell? Addr.add at hu
    by_cases hi:i=0
    · subst hi
      simp only [if_true] at hu
      split at hu <;> simp_all
    · simp only [hi,if_false] at hu
      split at hu <;> simp_all
  obtain⟨hsp,cur,ct,fr,hb,_⟩:=key 0 _ (hc 0 (by omega))
  have hcur:∀ i (hi:i<vs.length),cur[a.off+i]?=some vs[i]:=fun i hi=>by
    obtain⟨_,cur2,ct2,fr2,hb2,hc2⟩:=key i _ (hc i hi)
    rw [hb] at hb2
    cases hb2
    exact hc2
  have hsz:a.off+vs.length≤cur.size:=by
    have:=hcur (vs.length - 1) (by omega)
    have:=(Array.getElem?_eq_some_iff.1 this).1
    omega
  obtain⟨b,off,spot⟩:=a
  replace hsp:=hsp rfl
  simp only at hsp hb hcur hsz
  subst hsp
  refine⟨b,off,cur,ct,fr,rfl,hb,hsz,?_⟩
  apply List.ext_getElem?
  intro i
  rw [List.getElem?_take,List.getElem?_drop]
  by_cases hi:i<vs.length
  · rw [if_pos hi,Array.getElem?_toList,hcur i hi,List.getElem?_eq_getElem hi]
  · rw [if_neg hi,List.getElem?_eq_none (by omega)]
theorem zgp {α:Type}{p:Nat→α→Prop}:∀ n,(∀ i<n,∃ x,p i x)→∃ l:List α,l.length=n∧∀ i (hi:i<l.length),p i l[i]
  | 0,_=>⟨[],rfl,fun i hi=>by simp at hi⟩
  | n+1,H=>by
    obtain⟨l,hl,h⟩:=zgp n fun i hi=>H i (by omega)
    obtain⟨x,hx⟩:=H n (by omega)
    refine⟨l++[x],by simp [hl],fun i hi=>?_⟩
    by_cases hin:i<l.length
    · rw [List.getElem_append_left hin]; exact h i hin
    · have:i=l.length:=by simp at hi; omega
      subst this
      rw [List.getElem_append_right (Nat.le_refl _)]
      simpa [hl] using hx
section opens
variable {H:Type} {enc:TypeId × Value→H} {W:World} {base b0:Nat} {r:Reach} {sp:Nat→Bool} {held:Bool} {v:Value} {d:DataW H} {ps:List MemPlace}
theorem cel3:Tryz.prog.cellsOf 3=1:=by kernel_rfl
theorem cel2:Tryz.prog.cellsOf 2=1:=by kernel_rfl
theorem cel22:Tryz.prog.cellsOf 22=1:=by kernel_rfl
theorem cel24:Tryz.prog.cellsOf 24=3:=by kernel_rfl
theorem cel26:Tryz.prog.cellsOf 26=4:=by kernel_rfl
def okEn (e:En):Prop:=(Lit.int .i64 e.d).wf=true∧(Lit.int .i64 e.f).wf=true∧(Lit.int .i64 e.t).wf=true∧(Lit.int .i64 e.a).wf=true
theorem trod_en {fuel:Nat}{cs:List Value}{x:DataW H × List MemPlace}(h:DataW.trod enc Tryz.prog W base sp held fuel 26 cs=some x):∃ e:En,cs=enV e∧okEn e:=by
  obtain⟨xs,n,rfl,rfl,hl,hxl,hf⟩:=DataW.trod_struct Tryz.underlying26 h
  rw [cel26] at hl
  obtain⟨c0,c1,c2,c3,rfl⟩:∃ c0 c1 c2 c3,cs=[c0,c1,c2,c3]:=by
    match cs,hl with
    | [c0,c1,c2,c3],_=>exact⟨_,_,_,_,rfl⟩
  obtain⟨y0,y1,y2,y3,rfl⟩:∃ y0 y1 y2 y3,xs=[y0,y1,y2,y3]:=by
    match xs,hxl with
    | [y0,y1,y2,y3],_=>exact⟨_,_,_,_,rfl⟩
  have f0:DataW.trod enc Tryz.prog W base sp held n 3 (([c0,c1,c2,c3].drop 0).take (Tryz.prog.cellsOf 3))=some y0:=hf 0 _ rfl
  have f1:DataW.trod enc Tryz.prog W base sp held n 3 (([c0,c1,c2,c3].drop 1).take (Tryz.prog.cellsOf 3))=some y1:=hf 1 _ rfl
  have f2:DataW.trod enc Tryz.prog W base sp held n 3 (([c0,c1,c2,c3].drop 2).take (Tryz.prog.cellsOf 3))=some y2:=hf 2 _ rfl
  have f3:DataW.trod enc Tryz.prog W base sp held n 2 (([c0,c1,c2,c3].drop 3).take (Tryz.prog.cellsOf 2))=some y3:=hf 3 _ rfl
  rw [cel3] at f0 f1 f2
  rw [cel2] at f3
  obtain⟨n0,e0,_,w0⟩:=DataW.trod_int Tryz.underlying3 f0
  obtain⟨n1,e1,_,w1⟩:=DataW.trod_int Tryz.underlying3 f1
  obtain⟨n2,e2,_,w2⟩:=DataW.trod_int Tryz.underlying3 f2
  obtain⟨n3,e3,_,w3⟩:=DataW.trod_int Tryz.underlying2 f3
  simp at e0 e1 e2 e3
  subst e0 e1 e2 e3
  exact⟨⟨n0,n1,n2,n3⟩,rfl,w0,w1,w2,w3⟩
theorem trod_row {fuel:Nat}{cs:List Value}{x:DataW H × List MemPlace}(h:DataW.trod enc Tryz.prog W base sp held fuel 22 cs=some x):∃ a n c es,cs=[.slice a n c]∧Row W.heap a (ensV es)∧n=es.length:=by
  rcases DataW.trod_slice Tryz.underlying22 h with⟨rfl,_⟩ | ⟨a,len,cap,elems,rest,m,rfl,rfl,rfl,hb,hl,hm,hlen,hel,_,_⟩
  · exact⟨none,0,0,[],rfl,.inl rfl,rfl⟩
  rw [cel26] at hel
  have each:∀ i,i<len→∃ e:En,∀ k (hk:k<4),W.cell? (a.add (i*4+k))=(enV e)[k]?:=by
    intro i hi
    have h1:=hel i hi
    rw [List.getElem?_eq_getElem (by omega),Option.bind_eq_some_iff] at h1
    obtain⟨cs,h2,h3⟩:=h1
    obtain⟨e,rfl,_⟩:=trod_en h3
    refine⟨e,fun k hk=>?_⟩
    have h4:=(World.cells?_some h2).2.2 k hk
    rw [← h4]
    congr 1
    unfold Addr.add
    split <;> split <;> split <;> simp_all <;> omega
  obtain⟨es,hes,hE⟩:=zgp len each
  refine⟨some a,len,cap,es,rfl,row_of fun i hi=>?_,hes.symm⟩
  rw [zI] at hi
  have h1:=hE (i / 4) (by omega) (i % 4) (by omega)
  rw [show i / 4*4+i % 4=i by omega] at h1
  rw [h1,← zmz es (i / 4) (i % 4) (by omega) (by omega),show i / 4*4+i % 4=i by omega,List.getElem?_eq_getElem (by rw [zI]; omega)]
theorem open_book (hval:Value.okWide Tryz.prog W r b0 24 v)(hd:DataW.Trod enc Tryz.prog W base sp held 24 v d ps):∃ ac cl a n c es,v=.agg #[.int .i64 ac,.int .i64 cl,.slice a n c]∧Row W.heap a (ensV es)∧n=es.length:=by
  obtain⟨cs,rfl,hs⟩:=okWide_struct Tryz.underlying24 hval
  obtain⟨fuel,hf⟩:=hd
  obtain⟨xs,n,rfl,_,hl,hxl,hf⟩:=DataW.trod_struct Tryz.underlying24 hf
  rw [cel24] at hl
  simp only [Value.cells] at hl hf
  obtain⟨cs⟩:=cs
  simp only at hl hf
  obtain⟨c0,c1,c2,rfl⟩:∃ c0 c1 c2,cs=[c0,c1,c2]:=by
    match cs,hl with
    | [c0,c1,c2],_=>exact⟨_,_,_,rfl⟩
  obtain⟨y0,y1,y2,rfl⟩:∃ y0 y1 y2,xs=[y0,y1,y2]:=by
    match xs,hxl with
    | [y0,y1,y2],_=>exact⟨_,_,_,rfl⟩
  have f0:DataW.trod enc Tryz.prog W base sp held n 3 (([c0,c1,c2].drop 0).take (Tryz.prog.cellsOf 3))=some y0:=hf 0 _ rfl
  have f1:DataW.trod enc Tryz.prog W base sp held n 3 (([c0,c1,c2].drop 1).take (Tryz.prog.cellsOf 3))=some y1:=hf 1 _ rfl
  have f2:DataW.trod enc Tryz.prog W base sp held n 22 (([c0,c1,c2].drop 2).take (Tryz.prog.cellsOf 22))=some y2:=hf 2 _ rfl
  rw [cel3] at f0 f1
  rw [cel22] at f2
  obtain⟨n0,e0,_,w0⟩:=DataW.trod_int Tryz.underlying3 f0
  obtain⟨n1,e1,_,w1⟩:=DataW.trod_int Tryz.underlying3 f1
  obtain⟨a,m,c,es,e2,hr,hm⟩:=trod_row f2
  simp at e0 e1 e2
  subst e0 e1 e2
  exact⟨n0,n1,a,m,c,es,rfl,hr,hm⟩
end opens
end Go.Proofs.YtepaekbjoombpaaGreatDoor
end
section
namespace Go.Eng
open Go Go.ChangeShapes Go.WideShapes Go.ChangeAt Go.RowKit
theorem open_str {P:Program}{H:Type}{enc:TypeId × Value→H}{W:World}{base b0:Nat}{r:Reach}{sp:Nat→Bool}{held:Bool}{t:TypeId}{v:Value}{d:DataW H}{ps:List MemPlace}(ht:P.underlying t=some .string)
    (hval:Value.okWide P W r b0 t v) (hd:DataW.Trod enc P W base sp held t v d ps):∃ s,v=.string s∧s.size≤9223372036854775807:=by
  obtain⟨s,rfl⟩:=okWide_string ht hval
  obtain⟨fuel,hf⟩:=hd
  obtain⟨s2,h1,_,h2⟩:=DataW.trod_string ht hf
  simp [Value.cells] at h1
  subst h1
  exact⟨s,rfl,h2⟩
end Go.Eng
namespace Go.Proofs.YtepaekbjoombpaaGreatDoor
open Go Go.Proofs Go.Eng Tab
set_option maxRecDepth 100000
set_option linter.unusedSimpArgs false
set_option linter.unusedVariables false
set_option maxHeartbeats 2000000
end Go.Proofs.YtepaekbjoombpaaGreatDoor
end
