/- Texts joined by pack.py: lemmas for YtafemfjhflfdeaaDoorPlans. No condition. -/
import Derived.Test.YtafemfjhflfdeaaDoorPB12
import Derived.ProofKit
import Derived.OpenShut
import Derived.Below
import Derived.WideKeyArgs
import Derived.ChangeSlices
set_option linter.unusedSimpArgs false
set_option linter.unusedVariables false
set_option linter.defProp false
section
namespace Go.Proofs.YtafemfjhflfdeaaDoor
open Go Go.Proofs Go.Eng Go.Run Tab
set_option maxRecDepth 100000
set_option linter.unusedSimpArgs false
set_option linter.unusedVariables false
set_option linter.defProp false
set_option maxHeartbeats 8000000
set_option linter.defProp false
def H32Fs19 := (And.intro (And.intro (And.intro (And.intro @agg24 @agg45) (And.intro @agg54 @by3)) (And.intro (And.intro @inf24 @inf3) (And.intro @inf45 @inf54))) (And.intro (And.intro (And.intro @sz24 @sz3) (And.intro @sz45 @sz54)) (And.intro (And.intro @zero24 @zero3) (And.intro @zero45 (And.intro @zero54 @Tryd.underlying22)))))
theorem lab_of {m : MV} {v : Value} {h : Eng.Heap} (hc : chk m = 0) (H : LabV m v h) : ∃ a c, v = .tuple #[.slice a m.casts.length c, .int .i64 0] ∧ IntsV h a m.casts.length (moL m m.casts.length) := by
  rcases H with ⟨_, H⟩ | ⟨H, _⟩
  · exact H
  · exact absurd hc H
theorem rov_zero {m : MV} {x : Int} {v : Value} (h0 : roE m x = 0) (H : RoV m x v) : ∃ (p q : List Bool) (u : Nat), v = .tuple #[.string (planS p), .string (planS q), .int .i64 0] ∧ m.ov.run (x.toNat, x.toNat) p = some (u, u) ∧ m.ov.run (u, u) q = some (u, u) ∧ 1 ≤ OV.casts q ∧ p.length + q.length ≤ 300 := by
  rcases H with ⟨h, _⟩ | ⟨_, H⟩
  · exact absurd h0 h
  · exact H
theorem rov_ne {m : MV} {x : Int} {v : Value} (h0 : roE m x ≠ 0) (H : RoV m x v) : v = .tuple #[.string ⟨#[]⟩, .string ⟨#[]⟩, .int .i64 (roE m x)] := by
  rcases H with ⟨_, H⟩ | ⟨h, _⟩
  · exact H
  · exact absurd h h0
theorem run_lt {o : OV} (ok : o.ok) {i u : Nat} {p : List Bool} (hi : i < o.n) (h : o.run (i, i) p = some (u, u)) : u < o.n := (OV.in_run ok (s := (i, i)) ⟨hi, hi⟩ h).1
theorem eq2Q {er : Env} {h : Eng.Heap} {ty yt u : TypeId} {x y : Operand} (hfl : ((Pt.pr.ty u).map fun t => t.fl) = some (List.replicate 2 .i)) {xs ys : List Int} (h2 : xs.length = 2) (h2' : ys.length = 2) {b : Bool} {K : Value → Eng.Heap → Prop} (hx : ev er x = .agg (Eng.ints xs).toArray) (hy : ev er y = .agg (Eng.ints ys).toArray) (hb : decide (xs = ys) = b) (H : K (.bool b) h) : opQS Tryd.prog Ext (.binOp .eql u x y yt) ty er h K := by
  unfold opQS
  obtain ⟨ti, hti, hfl⟩ := Option.map_eq_some_iff.1 hfl
  refine ⟨.bool b, fun h' hr => ?_, H⟩
  exact eqIntsW Pt.ok hti (xs := xs) (ys := ys) (by omega) (by omega) (by rw [h2]; exact hfl) hx hy ⟨by rw [hb], Ext.refl _⟩
theorem works19 (h : Eng.Heap) : CallsH Tryd.prog 19 #[] h (fun v h' => v = .bool true ∧ Ext h h') := by
  (refine CallsH_of_exec Tryd.func19 rfl bod19 ?_; simp only [Tryd.ntmps19, Tryd.results19, coreS, stK_some, splice, Value.cells, Value.oneCell', Nat.reduceAdd, Nat.reduceSub, Nat.reduceMul, Nat.reduceLeDiff, Int.reduceEq, Nat.reduceEqDiff, H32Fs19])
  refine CallsH.mono (good52 _) ?_
  rintro v h1 ⟨⟨g1, rfl, ok1⟩, x1⟩
  simp only [coreS, Value.cells, Value.oneCell', Nat.reduceAdd, Nat.reduceSub, Nat.reduceMul, Nat.reduceLeDiff, Int.reduceEq, Nat.reduceEqDiff, H32Fs19]
  refine CallsH.mono (stuck53 _) ?_
  rintro v h2 ⟨⟨g2, rfl, ok2⟩, x2⟩
  simp only [splice, coreS, Value.cells, Value.oneCell', Nat.reduceAdd, Nat.reduceSub, Nat.reduceMul, Nat.reduceLeDiff, Int.reduceEq, Nat.reduceEqDiff, H32Fs19]
  obtain ⟨c1, hc1⟩ : ∃ c, c = h2.size := ⟨_, rfl⟩
  have q0 := pn0 (h := h2) (o := .cells #[.slice none 0 0, .slice none 0 0, .int .i64 0, .int .i64 0] 24) (o' := .cells #[.slice none 0 0, .slice none 0 0, .int .i64 0, .int .i64 0] 24)
  have q1 := pn1 (h := h2) (o := .cells #[.slice none 0 0, .slice none 0 0, .int .i64 0, .int .i64 0] 24) (o' := .cells #[.slice none 0 0, .slice none 0 0, .int .i64 0, .int .i64 0] 24)
  have y0 : Ext h2 ((h2.push (.cells #[.slice none 0 0, .slice none 0 0, .int .i64 0, .int .i64 0] 24)).push (.cells #[.slice none 0 0, .slice none 0 0, .int .i64 0, .int .i64 0] 24)) := ((Ext.refl h2).push _).push _
  refine stK_abs q0 (by simp) fun h3 g3 u3 => ?_
  simp only [splice] at g3
  have k3 := u3.get q1 (by omega)
  simp only [k3, splice, coreS, Value.cells, Value.oneCell', Nat.reduceAdd, Nat.reduceSub, Nat.reduceMul, Nat.reduceLeDiff, Int.reduceEq, Nat.reduceEqDiff, H32Fs19]
  refine stK_abs k3 (by simp) fun h4 g4 u4 => ?_
  simp only [splice] at g4
  have k1 := u4.get g3 (by omega)
  have k2 := g4
  have y2 := u4.ext (u3.ext y0 (by omega)) (by omega)
  have y := (x1.trans x2).trans y2
  replace ok1 := (ok1.ext x2).ext y2
  replace ok2 := ok2.ext y2
  have e1 : (goodM g1).val = .agg #[.slice (goodM g1).a (goodM g1).casts.length (goodM g1).ca, .slice (goodM g1).b (goodM g1).waits.length (goodM g1).cb, .int .i64 (goodM g1).lo, .int .i64 (goodM g1).hi] := rfl
  have e2 : (stuckM g2).val = .agg #[.slice (stuckM g2).a (stuckM g2).casts.length (stuckM g2).ca, .slice (stuckM g2).b (stuckM g2).waits.length (stuckM g2).cb, .int .i64 (stuckM g2).lo, .int .i64 (stuckM g2).hi] := rfl
  clear q0 q1 y0 g3 g4 k3 u3 u4 x1 x2 y2
  rw [← hc1] at k1 k2
  simp only [← hc1]
  clear hc1
  simp only [k1, splice, coreS, Value.cells, Value.oneCell', Nat.reduceAdd, Nat.reduceSub, Nat.reduceMul, Nat.reduceLeDiff, Int.reduceEq, Nat.reduceEqDiff, H32Fs19]
  refine CallsH.mono (run20 (goodM g1) 3 ⟨#[99, 99, 119]⟩ _ ok1 (by decide)) ?_
  rintro v h5 ⟨rfl, x5⟩
  replace k1 := x5.get k1
  replace k2 := x5.get k2
  replace ok1 := ok1.ext x5
  replace ok2 := ok2.ext x5
  replace y := y.trans x5
  simp only [k1, k2, (v1 g1).1, (v1 g1).2.1, (v1 g1).2.2, splice, coreS, Value.cells, Value.oneCell', Nat.reduceAdd, Nat.reduceSub, Nat.reduceMul, Nat.reduceLeDiff, Int.reduceEq, Nat.reduceEqDiff, H32Fs19]
  refine CallsH.mono (run20 (goodM g1) 3 ⟨#[99, 99, 99]⟩ _ ok1 (by decide)) ?_
  rintro v h6 ⟨rfl, x6⟩
  replace k1 := x6.get k1
  replace k2 := x6.get k2
  replace ok1 := ok1.ext x6
  replace ok2 := ok2.ext x6
  replace y := y.trans x6
  simp only [k1, k2, v2 g1, splice, coreS, Value.cells, Value.oneCell', Nat.reduceAdd, Nat.reduceSub, Nat.reduceMul, Nat.reduceLeDiff, Int.reduceEq, Nat.reduceEqDiff, H32Fs19]
  refine CallsH.mono (run20 (goodM g1) 3 ⟨#[99, 120]⟩ _ ok1 (by decide)) ?_
  rintro v h7 ⟨rfl, x7⟩
  replace k1 := x7.get k1
  replace k2 := x7.get k2
  replace ok1 := ok1.ext x7
  replace ok2 := ok2.ext x7
  replace y := y.trans x7
  simp only [k1, k2, v3 g1, splice, coreS, Value.cells, Value.oneCell', Nat.reduceAdd, Nat.reduceSub, Nat.reduceMul, Nat.reduceLeDiff, Int.reduceEq, Nat.reduceEqDiff, H32Fs19]
  refine CallsH.mono (run20 (goodM g1) 8 ⟨#[99]⟩ _ ok1 (by decide)) ?_
  rintro v h8 ⟨rfl, x8⟩
  replace k1 := x8.get k1
  replace k2 := x8.get k2
  replace ok1 := ok1.ext x8
  replace ok2 := ok2.ext x8
  replace y := y.trans x8
  simp only [k1, k2, v4 g1, splice, coreS, Value.cells, Value.oneCell', Nat.reduceAdd, Nat.reduceSub, Nat.reduceMul, Nat.reduceLeDiff, Int.reduceEq, Nat.reduceEqDiff, H32Fs19]
  refine CallsH.mono (fewest24 (goodM g1) 3 4 _ ok1) ?_
  rintro v h9 ⟨rfl, x9⟩
  replace k1 := x9.get k1
  replace k2 := x9.get k2
  replace ok1 := ok1.ext x9
  replace ok2 := ok2.ext x9
  replace y := y.trans x9
  simp only [k1, k2, (v5 g1).1, (v5 g1).2, splice, coreS, Value.cells, Value.oneCell', Nat.reduceAdd, Nat.reduceSub, Nat.reduceMul, Nat.reduceLeDiff, Int.reduceEq, Nat.reduceEqDiff, H32Fs19]
  refine CallsH.mono (fewest24 (goodM g1) 1 1 _ ok1) ?_
  rintro v h10 ⟨rfl, x10⟩
  replace k1 := x10.get k1
  replace k2 := x10.get k2
  replace ok1 := ok1.ext x10
  replace ok2 := ok2.ext x10
  replace y := y.trans x10
  simp only [k1, k2, v6 g1, splice, coreS, Value.cells, Value.oneCell', Nat.reduceAdd, Nat.reduceSub, Nat.reduceMul, Nat.reduceLeDiff, Int.reduceEq, Nat.reduceEqDiff, H32Fs19]
  refine CallsH.mono (plan26 (goodM g1) 3 4 _ ok1) ?_
  rintro v h11 ⟨rfl, x11⟩
  replace k1 := x11.get k1
  replace k2 := x11.get k2
  replace ok1 := ok1.ext x11
  replace ok2 := ok2.ext x11
  replace y := y.trans x11
  simp only [k1, k2, v7 g1, (v5 g1).2, splice, coreS, Value.cells, Value.oneCell', Nat.reduceAdd, Nat.reduceSub, Nat.reduceMul, Nat.reduceLeDiff, Int.reduceEq, Nat.reduceEqDiff, H32Fs19]
  refine CallsH.mono (most28 (goodM g1) 3 _ ok1) ?_
  rintro v h12 ⟨rfl, x12⟩
  replace k1 := x12.get k1
  replace k2 := x12.get k2
  replace ok1 := ok1.ext x12
  replace ok2 := ok2.ext x12
  replace y := y.trans x12
  simp only [k1, k2, v8 g1, splice, coreS, Value.cells, Value.oneCell', Nat.reduceAdd, Nat.reduceSub, Nat.reduceMul, Nat.reduceLeDiff, Int.reduceEq, Nat.reduceEqDiff, H32Fs19]
  refine CallsH.mono (most28 (stuckM g2) 4 _ ok2) ?_
  rintro v h13 ⟨rfl, x13⟩
  replace k1 := x13.get k1
  replace k2 := x13.get k2
  replace ok1 := ok1.ext x13
  replace ok2 := ok2.ext x13
  replace y := y.trans x13
  simp only [k1, k2, (v9 g2).1, (v9 g2).2, splice, coreS, Value.cells, Value.oneCell', Nat.reduceAdd, Nat.reduceSub, Nat.reduceMul, Nat.reduceLeDiff, Int.reduceEq, Nat.reduceEqDiff, H32Fs19]
  refine CallsH.mono (labels30 (goodM g1) _ ok1) ?_
  rintro v h14 ⟨hL, x14⟩
  replace k1 := x14.get k1
  replace k2 := x14.get k2
  replace ok1 := ok1.ext x14
  replace ok2 := ok2.ext x14
  replace y := y.trans x14
  obtain ⟨a1, d1, rfl, I1⟩ := lab_of (good_chk g1) hL
  simp only [k1, k2, splice, coreS, Value.cells, Value.oneCell', Nat.reduceAdd, Nat.reduceSub, Nat.reduceMul, Nat.reduceLeDiff, Int.reduceEq, Nat.reduceEqDiff, H32Fs19]
  rw [show moL (goodM g1) (goodM g1).casts.length = [0, 0, -1, -1, -1, -1, -1, -1] from moL_good g1] at I1
  refine CallsH.mono (labels30 (stuckM g2) _ ok2) ?_
  rintro v h15 ⟨hL, x15⟩
  replace k1 := x15.get k1
  replace k2 := x15.get k2
  replace ok1 := ok1.ext x15
  replace ok2 := ok2.ext x15
  replace y := y.trans x15
  replace I1 := I1.ext x15
  obtain ⟨a2, d2, rfl, I2⟩ := lab_of (stuck_chk g2) hL
  simp only [k1, k2, splice, coreS, Value.cells, Value.oneCell', Nat.reduceAdd, Nat.reduceSub, Nat.reduceMul, Nat.reduceLeDiff, Int.reduceEq, Nat.reduceEqDiff, H32Fs19]
  rw [show moL (stuckM g2) (stuckM g2).casts.length = [0, 0, 0, 0, 1, 1, 0, 0] from moL_stuck g2] at I2
  refine WP_cut [29, 30, 116, 117, 118, 119, 120, 121, 122, 123] (fun g h' => g 29 = .int .i64 0 ∧ g 30 = .int .i64 14 ∧ Ext h15 h') ?_ ?_
  · refine WP_tree (by kernel_rfl) sta_ext (.quiet 0 (.quiet 4 (.fork 1 5 (.quiet 2 (.quiet 3 (.keep 5 (.quiet 6 (.quiet 7 (.quiet 8 (.quiet 9 (.fin)))))))) (.keep 1 (.quiet 2 (.quiet 3 (.quiet 6 (.quiet 7 (.quiet 8 (.quiet 9 (.fin))))))))))) (by kernel_rfl) rfl (by kernel_rfl) ?_
    simp only [k1, k2, splice, coreS, Value.cells, Value.oneCell', Nat.reduceAdd, Nat.reduceSub, Nat.reduceMul, Nat.reduceLeDiff, Int.reduceEq, Nat.reduceEqDiff, drawS, treeS, H32Fs19]
    refine execT_fork fun hA xA => ⟨?_, ?_⟩
    · simp only [splice, coreS, Value.cells, Value.oneCell', Nat.reduceAdd, Nat.reduceSub, Nat.reduceMul, Nat.reduceLeDiff, Int.reduceEq, Nat.reduceEqDiff, drawS, treeS, H32Fs19]
      refine ⟨(Ext.refl hA).push _, ?_⟩
      refine cQ_ext _ (fun h' x' => CallsH.mono (of54 _ h') fun v h'' q => ⟨q.1, by rw [q.2]; exact Ext.refl _⟩) ?_
      simp only [k1, k2, coreS, Value.cells, Value.oneCell', Nat.reduceAdd, Nat.reduceSub, Nat.reduceMul, Nat.reduceLeDiff, Int.reduceEq, Nat.reduceEqDiff, drawS, treeS, H32Fs19]
      refine cQ_ext _ (fun h' x' => CallsH.mono (ckl33 (stuckM g2) (some ⟨hA.size, 0, none⟩) 8 8 [0, 0, 0, 0, 1, 1, 0, 0] h' (ok2.ext ((xA.push _).trans x')) (IntsV.block (xs := [0, 0, 0, 0, 1, 1, 0, 0]) (x'.get push_new)) (by omega)) fun v h'' q => ⟨q.1, q.2⟩) ?_
      simp only [v12 g2, coreS, Value.cells, Value.oneCell', Nat.reduceAdd, Nat.reduceSub, Nat.reduceMul, Nat.reduceLeDiff, Int.reduceEq, Nat.reduceEqDiff, drawS, treeS, H32Fs19]
      refine execT_keep fun hB xB => ?_
      simp only [splice, coreS, Value.cells, Value.oneCell', Nat.reduceAdd, Nat.reduceSub, Nat.reduceMul, Nat.reduceLeDiff, Int.reduceEq, Nat.reduceEqDiff, drawS, treeS, H32Fs19]
      refine ⟨(Ext.refl hB).push _, ?_⟩
      refine cQ_ext _ (fun h' x' => CallsH.mono (of54 _ h') fun v h'' q => ⟨q.1, by rw [q.2]; exact Ext.refl _⟩) ?_
      simp only [k1, k2, coreS, Value.cells, Value.oneCell', Nat.reduceAdd, Nat.reduceSub, Nat.reduceMul, Nat.reduceLeDiff, Int.reduceEq, Nat.reduceEqDiff, drawS, treeS, H32Fs19]
      refine cQ_ext _ (fun h' x' => CallsH.mono (ckl33 (stuckM g2) (some ⟨hB.size, 0, none⟩) 8 8 [0, 0, 0, 0, 2, 1, 1, 0] h' (ok2.ext ((((xA.push _).trans xB).push _).trans x')) (IntsV.block (xs := [0, 0, 0, 0, 2, 1, 1, 0]) (x'.get push_new)) (by omega)) fun v h'' q => ⟨q.1, q.2⟩) ?_
      simp only [v13 g2, coreS, Value.cells, Value.oneCell', Nat.reduceAdd, Nat.reduceSub, Nat.reduceMul, Nat.reduceLeDiff, Int.reduceEq, Nat.reduceEqDiff, drawS, treeS, H32Fs19]
      refine execT_fin fun hC xC => ?_
      simp only [coreS, Value.cells, Value.oneCell', Nat.reduceAdd, Nat.reduceSub, Nat.reduceMul, Nat.reduceLeDiff, Int.reduceEq, Nat.reduceEqDiff, H32Fs19]
      exact midK_mk (by kernel_rfl) ⟨rfl, rfl, (((xA.push _).trans xB).push _).trans xC⟩
    · simp only [splice, coreS, Value.cells, Value.oneCell', Nat.reduceAdd, Nat.reduceSub, Nat.reduceMul, Nat.reduceLeDiff, Int.reduceEq, Nat.reduceEqDiff, drawS, treeS, H32Fs19]
      refine ⟨(Ext.refl hA).push _, ?_⟩
      refine execT_keep fun hB xB => ?_
      simp only [splice, coreS, Value.cells, Value.oneCell', Nat.reduceAdd, Nat.reduceSub, Nat.reduceMul, Nat.reduceLeDiff, Int.reduceEq, Nat.reduceEqDiff, drawS, treeS, H32Fs19]
      refine ⟨(Ext.refl hB).push _, ?_⟩
      refine cQ_ext _ (fun h' x' => CallsH.mono (of54 _ h') fun v h'' q => ⟨q.1, by rw [q.2]; exact Ext.refl _⟩) ?_
      simp only [k1, k2, coreS, Value.cells, Value.oneCell', Nat.reduceAdd, Nat.reduceSub, Nat.reduceMul, Nat.reduceLeDiff, Int.reduceEq, Nat.reduceEqDiff, drawS, treeS, H32Fs19]
      refine cQ_ext _ (fun h' x' => CallsH.mono (ckl33 (stuckM g2) (some ⟨hB.size, 0, none⟩) 8 8 [0, 0, 0, 0, 1, 1, 0, 0] h' (ok2.ext ((((xA.push _).trans xB).push _).trans x')) (IntsV.block (xs := [0, 0, 0, 0, 1, 1, 0, 0]) (x'.get push_new)) (by omega)) fun v h'' q => ⟨q.1, q.2⟩) ?_
      simp only [v12 g2, coreS, Value.cells, Value.oneCell', Nat.reduceAdd, Nat.reduceSub, Nat.reduceMul, Nat.reduceLeDiff, Int.reduceEq, Nat.reduceEqDiff, drawS, treeS, H32Fs19]
      refine cQ_ext _ (fun h' x' => CallsH.mono (of54 _ h') fun v h'' q => ⟨q.1, by rw [q.2]; exact Ext.refl _⟩) ?_
      simp only [k1, k2, coreS, Value.cells, Value.oneCell', Nat.reduceAdd, Nat.reduceSub, Nat.reduceMul, Nat.reduceLeDiff, Int.reduceEq, Nat.reduceEqDiff, drawS, treeS, H32Fs19]
      refine cQ_ext _ (fun h' x' => CallsH.mono (ckl33 (stuckM g2) (some ⟨hA.size, 0, none⟩) 8 8 [0, 0, 0, 0, 2, 1, 1, 0] h' (ok2.ext ((((xA.push _).trans xB).push _).trans x')) (IntsV.block (xs := [0, 0, 0, 0, 2, 1, 1, 0]) (x'.get (push_old (xB.get push_new)))) (by omega)) fun v h'' q => ⟨q.1, q.2⟩) ?_
      simp only [v13 g2, coreS, Value.cells, Value.oneCell', Nat.reduceAdd, Nat.reduceSub, Nat.reduceMul, Nat.reduceLeDiff, Int.reduceEq, Nat.reduceEqDiff, drawS, treeS, H32Fs19]
      refine execT_fin fun hC xC => ?_
      simp only [coreS, Value.cells, Value.oneCell', Nat.reduceAdd, Nat.reduceSub, Nat.reduceMul, Nat.reduceLeDiff, Int.reduceEq, Nat.reduceEqDiff, H32Fs19]
      exact midK_mk (by kernel_rfl) ⟨rfl, rfl, (((xA.push _).trans xB).push _).trans xC⟩
  rintro f1 h16 ⟨f1a, f1b, x16⟩
  replace k1 := x16.get k1
  replace k2 := x16.get k2
  replace ok1 := ok1.ext x16
  replace ok2 := ok2.ext x16
  replace y := y.trans x16
  replace I1 := I1.ext x16
  replace I2 := I2.ext x16
  simp only [k1, k2, f1a, f1b, splice, coreS, Value.cells, Value.oneCell', Nat.reduceAdd, Nat.reduceSub, Nat.reduceMul, Nat.reduceLeDiff, Int.reduceEq, Nat.reduceEqDiff, H32Fs19]
  refine CallsH.mono (ckr35 (goodM g1) 3 ⟨#[99, 99, 119]⟩ ⟨#[99, 119]⟩ _ ok1 (by decide) (by decide)) ?_
  rintro v h17 ⟨rfl, x17⟩
  replace k1 := x17.get k1
  replace k2 := x17.get k2
  replace ok1 := ok1.ext x17
  replace ok2 := ok2.ext x17
  replace y := y.trans x17
  replace I1 := I1.ext x17
  replace I2 := I2.ext x17
  simp only [k1, k2, (v14 g1).1, (v14 g1).2, ratV, splice, coreS, Value.cells, Value.oneCell', Nat.reduceAdd, Nat.reduceSub, Nat.reduceMul, Nat.reduceLeDiff, Int.reduceEq, Nat.reduceEqDiff, H32Fs19]
  refine stK_abs push_new (by simp) fun h18 b3 u18 => ?_
  simp only [splice] at b3
  have x18 : Ext h17 h18 := u18.ext ((Ext.refl h17).push _) (Nat.le_refl _)
  replace k1 := x18.get k1
  replace k2 := x18.get k2
  replace ok1 := ok1.ext x18
  replace ok2 := ok2.ext x18
  replace y := y.trans x18
  replace I1 := I1.ext x18
  replace I2 := I2.ext x18
  simp only [k1, k2, b3, splice, coreS, Value.cells, Value.oneCell', Nat.reduceAdd, Nat.reduceSub, Nat.reduceMul, Nat.reduceLeDiff, Int.reduceEq, Nat.reduceEqDiff, H32Fs19]
  refine CallsH.mono (ckr35 (goodM g1) 3 ⟨#[99]⟩ ⟨#[99, 119]⟩ _ ok1 (by decide) (by decide)) ?_
  rintro v h19 ⟨rfl, x19⟩
  replace k1 := x19.get k1
  replace k2 := x19.get k2
  replace ok1 := ok1.ext x19
  replace ok2 := ok2.ext x19
  replace y := y.trans x19
  replace I1 := I1.ext x19
  replace I2 := I2.ext x19
  replace b3 := x19.get b3
  simp only [k1, k2, b3, v15 g1, ratV, splice, coreS, Value.cells, Value.oneCell', Nat.reduceAdd, Nat.reduceSub, Nat.reduceMul, Nat.reduceLeDiff, Int.reduceEq, Nat.reduceEqDiff, H32Fs19]
  refine stK_abs push_new (by simp) fun h20 b4 u20 => ?_
  simp only [splice] at b4
  have x20 : Ext h19 h20 := u20.ext ((Ext.refl h19).push _) (Nat.le_refl _)
  replace k1 := x20.get k1
  replace k2 := x20.get k2
  replace ok1 := ok1.ext x20
  replace ok2 := ok2.ext x20
  replace y := y.trans x20
  replace I1 := I1.ext x20
  replace I2 := I2.ext x20
  replace b3 := x20.get b3
  simp only [k1, k2, b3, b4, splice, coreS, Value.cells, Value.oneCell', Nat.reduceAdd, Nat.reduceSub, Nat.reduceMul, Nat.reduceLeDiff, Int.reduceEq, Nat.reduceEqDiff, H32Fs19]
  refine CallsH.mono (round39 (goodM g1) 3 _ ok1) ?_
  rintro v h21 ⟨hR, x21⟩
  replace k1 := x21.get k1
  replace k2 := x21.get k2
  replace ok1 := ok1.ext x21
  replace ok2 := ok2.ext x21
  replace y := y.trans x21
  replace I1 := I1.ext x21
  replace I2 := I2.ext x21
  replace b3 := x21.get b3
  replace b4 := x21.get b4
  obtain ⟨p, q, u, rfl, hp1, hp2, hp3, hp4⟩ := rov_zero (v16 g1) hR
  simp only [k1, k2, b3, b4, splice, coreS, Value.cells, Value.oneCell', Nat.reduceAdd, Nat.reduceSub, Nat.reduceMul, Nat.reduceLeDiff, Int.reduceEq, Nat.reduceEqDiff, H32Fs19]
  refine CallsH.mono (round39 (stuckM g2) 4 _ ok2) ?_
  rintro v h22 ⟨hR2, x22⟩
  replace k1 := x22.get k1
  replace k2 := x22.get k2
  replace ok1 := ok1.ext x22
  replace ok2 := ok2.ext x22
  replace y := y.trans x22
  replace I1 := I1.ext x22
  replace I2 := I2.ext x22
  replace b3 := x22.get b3
  replace b4 := x22.get b4
  obtain rfl := rov_ne (by rw [v17 g2]; decide) hR2
  simp only [k1, k2, b3, b4, v17 g2, splice, coreS, Value.cells, Value.oneCell', Nat.reduceAdd, Nat.reduceSub, Nat.reduceMul, Nat.reduceLeDiff, Int.reduceEq, Nat.reduceEqDiff, H32Fs19]
  refine CallsH.mono (rate37 (goodM g1) 3 _ ok1) ?_
  rintro v h23 ⟨rfl, x23⟩
  replace k1 := x23.get k1
  replace k2 := x23.get k2
  replace ok1 := ok1.ext x23
  replace ok2 := ok2.ext x23
  replace y := y.trans x23
  replace I1 := I1.ext x23
  replace I2 := I2.ext x23
  replace b3 := x23.get b3
  replace b4 := x23.get b4
  simp only [k1, k2, b3, b4, v18 g1, v16 g1, ratV, splice, coreS, Value.cells, Value.oneCell', Nat.reduceAdd, Nat.reduceSub, Nat.reduceMul, Nat.reduceLeDiff, Int.reduceEq, Nat.reduceEqDiff, H32Fs19]
  refine stK_abs push_new (by simp) fun h24 b5 u24 => ?_
  simp only [splice] at b5
  have x24 : Ext h23 h24 := u24.ext ((Ext.refl h23).push _) (Nat.le_refl _)
  replace k1 := x24.get k1
  replace k2 := x24.get k2
  replace ok1 := ok1.ext x24
  replace ok2 := ok2.ext x24
  replace y := y.trans x24
  replace I1 := I1.ext x24
  replace I2 := I2.ext x24
  replace b3 := x24.get b3
  replace b4 := x24.get b4
  simp only [k1, k2, b3, b4, b5, splice, coreS, Value.cells, Value.oneCell', Nat.reduceAdd, Nat.reduceSub, Nat.reduceMul, Nat.reduceLeDiff, Int.reduceEq, Nat.reduceEqDiff, H32Fs19]
  refine WP_cut [43, 44, 151, 152, 153, 154, 155, 156] (fun g h' => (∃ b, g 43 = .pointer (some ⟨b, 0, none⟩) ∧ h'[b]? = some (.cells #[.int .i64 (6), .int .i64 (7)] 54)) ∧ g 44 = .int .i64 0 ∧ Ext h24 h') ?_ ?_
  · refine WP_tree (by kernel_rfl) sta_ext (.quiet 0 (.quiet 1 (.quiet 2 (.quiet 3 (.quiet 4 (.pure 5 (.keep 6 (.one 7 (.quiet 8 (.fin)))))))))) (by kernel_rfl) rfl (by kernel_rfl) ?_
    simp only [k1, k2, b3, b4, b5, splice, coreS, Value.cells, Value.oneCell', Nat.reduceAdd, Nat.reduceSub, Nat.reduceMul, Nat.reduceLeDiff, Int.reduceEq, Nat.reduceEqDiff, drawS, treeS, H32Fs19]
    refine cQ_ext _ (fun h' x' => CallsH.mono (to49 2 3 h') fun v h'' q => ⟨q.1, q.2⟩) ?_
    simp only [rgV, k1, k2, b3, b4, b5, splice, coreS, Value.cells, Value.oneCell', Nat.reduceAdd, Nat.reduceSub, Nat.reduceMul, Nat.reduceLeDiff, Int.reduceEq, Nat.reduceEqDiff, drawS, treeS, H32Fs19]
    refine cQ_ext _ (fun h' x' => CallsH.mono (runAll41 (goodM g1) 2 3 ⟨#[99, 99]⟩ h' (ok1.ext x') (by decide)) fun v h'' q => ⟨q.1, q.2⟩) ?_
    simp only [(v19 g1).1, (v19 g1).2, spV, splice, coreS, Value.cells, Value.oneCell', Nat.reduceAdd, Nat.reduceSub, Nat.reduceMul, Nat.reduceLeDiff, Int.reduceEq, Nat.reduceEqDiff, drawS, treeS, H32Fs19]
    refine execT_keep fun hA xA => ?_
    simp only [splice, coreS, Value.cells, Value.oneCell', Nat.reduceAdd, Nat.reduceSub, Nat.reduceMul, Nat.reduceLeDiff, Int.reduceEq, Nat.reduceEqDiff, drawS, treeS, H32Fs19]
    refine ⟨(Ext.refl hA).push _, ?_⟩
    refine execT_one fun hB xB => ?_
    have tB := xB.get (push_new (h := hA))
    simp only [tB, splice, coreS, Value.cells, Value.oneCell', Nat.reduceAdd, Nat.reduceSub, Nat.reduceMul, Nat.reduceLeDiff, Int.reduceEq, Nat.reduceEqDiff, drawS, treeS, H32Fs19]
    refine stK_abs tB (by simp) fun hC gC uC => ?_
    simp only [splice] at gC
    have xx : Ext hA hC := uC.ext xB.of_push (Nat.le_refl _)
    try simp only [coreS, Value.cells, Value.oneCell', Nat.reduceAdd, Nat.reduceSub, Nat.reduceMul, Nat.reduceLeDiff, Int.reduceEq, Nat.reduceEqDiff, drawS, treeS, H32Fs19]
    refine execT_fin fun hD xD => ?_
    simp only [coreS, Value.cells, Value.oneCell', Nat.reduceAdd, Nat.reduceSub, Nat.reduceMul, Nat.reduceLeDiff, Int.reduceEq, Nat.reduceEqDiff, H32Fs19]
    exact midK_mk (by kernel_rfl) ⟨⟨hA.size, rfl, xD.get gC⟩, rfl, (xA.trans xx).trans xD⟩
  rintro f19 h25 ⟨⟨b19_, f19a, b19⟩, f19b, x25⟩
  replace k1 := x25.get k1
  replace k2 := x25.get k2
  replace ok1 := ok1.ext x25
  replace ok2 := ok2.ext x25
  replace y := y.trans x25
  replace I1 := I1.ext x25
  replace I2 := I2.ext x25
  replace b3 := x25.get b3
  replace b4 := x25.get b4
  replace b5 := x25.get b5
  simp only [k1, k2, b3, b4, b5, b19, f19a, f19b, splice, coreS, Value.cells, Value.oneCell', Nat.reduceAdd, Nat.reduceSub, Nat.reduceMul, Nat.reduceLeDiff, Int.reduceEq, Nat.reduceEqDiff, H32Fs19]
  refine WP_cut [45, 46, 157, 158, 159, 160, 161, 162] (fun g h' => (∃ b, g 45 = .pointer (some ⟨b, 0, none⟩) ∧ h'[b]? = some (.cells #[.int .i64 (((raV (goodM g1) 3 4 ⟨#[99, 99]⟩).1 : Nat) : Int), .int .i64 (((raV (goodM g1) 3 4 ⟨#[99, 99]⟩).2 : Nat) : Int)] 54)) ∧ g 46 = .int .i64 22 ∧ Ext h25 h') ?_ ?_
  · refine WP_tree (by kernel_rfl) sta_ext (.quiet 0 (.quiet 1 (.quiet 2 (.quiet 3 (.quiet 4 (.pure 5 (.keep 6 (.one 7 (.quiet 8 (.fin)))))))))) (by kernel_rfl) rfl (by kernel_rfl) ?_
    simp only [k1, k2, b3, b4, b5, b19, splice, coreS, Value.cells, Value.oneCell', Nat.reduceAdd, Nat.reduceSub, Nat.reduceMul, Nat.reduceLeDiff, Int.reduceEq, Nat.reduceEqDiff, drawS, treeS, H32Fs19]
    refine cQ_ext _ (fun h' x' => CallsH.mono (to49 3 4 h') fun v h'' q => ⟨q.1, q.2⟩) ?_
    simp only [rgV, k1, k2, b3, b4, b5, b19, splice, coreS, Value.cells, Value.oneCell', Nat.reduceAdd, Nat.reduceSub, Nat.reduceMul, Nat.reduceLeDiff, Int.reduceEq, Nat.reduceEqDiff, drawS, treeS, H32Fs19]
    refine cQ_ext _ (fun h' x' => CallsH.mono (runAll41 (goodM g1) 3 4 ⟨#[99, 99]⟩ h' (ok1.ext x') (by decide)) fun v h'' q => ⟨q.1, q.2⟩) ?_
    simp only [v20 g1, spV, splice, coreS, Value.cells, Value.oneCell', Nat.reduceAdd, Nat.reduceSub, Nat.reduceMul, Nat.reduceLeDiff, Int.reduceEq, Nat.reduceEqDiff, drawS, treeS, H32Fs19]
    refine execT_keep fun hA xA => ?_
    simp only [splice, coreS, Value.cells, Value.oneCell', Nat.reduceAdd, Nat.reduceSub, Nat.reduceMul, Nat.reduceLeDiff, Int.reduceEq, Nat.reduceEqDiff, drawS, treeS, H32Fs19]
    refine ⟨(Ext.refl hA).push _, ?_⟩
    refine execT_one fun hB xB => ?_
    have tB := xB.get (push_new (h := hA))
    simp only [tB, splice, coreS, Value.cells, Value.oneCell', Nat.reduceAdd, Nat.reduceSub, Nat.reduceMul, Nat.reduceLeDiff, Int.reduceEq, Nat.reduceEqDiff, drawS, treeS, H32Fs19]
    refine stK_abs tB (by simp) fun hC gC uC => ?_
    simp only [splice] at gC
    have xx : Ext hA hC := uC.ext xB.of_push (Nat.le_refl _)
    try simp only [coreS, Value.cells, Value.oneCell', Nat.reduceAdd, Nat.reduceSub, Nat.reduceMul, Nat.reduceLeDiff, Int.reduceEq, Nat.reduceEqDiff, drawS, treeS, H32Fs19]
    refine execT_fin fun hD xD => ?_
    simp only [coreS, Value.cells, Value.oneCell', Nat.reduceAdd, Nat.reduceSub, Nat.reduceMul, Nat.reduceLeDiff, Int.reduceEq, Nat.reduceEqDiff, H32Fs19]
    exact midK_mk (by kernel_rfl) ⟨⟨hA.size, rfl, xD.get gC⟩, rfl, (xA.trans xx).trans xD⟩
  rintro f20 h26 ⟨⟨b20_, f20a, b20⟩, f20b, x26⟩
  replace k1 := x26.get k1
  replace k2 := x26.get k2
  replace ok1 := ok1.ext x26
  replace ok2 := ok2.ext x26
  replace y := y.trans x26
  replace I1 := I1.ext x26
  replace I2 := I2.ext x26
  replace b3 := x26.get b3
  replace b4 := x26.get b4
  replace b5 := x26.get b5
  replace b19 := x26.get b19
  simp only [k1, k2, b3, b4, b5, b19, b20, f20a, f20b, splice, coreS, Value.cells, Value.oneCell', Nat.reduceAdd, Nat.reduceSub, Nat.reduceMul, Nat.reduceLeDiff, Int.reduceEq, Nat.reduceEqDiff, H32Fs19]
  refine WP_cut [47, 48, 163, 164, 165, 166, 167, 168] (fun g h' => g 47 = .string ⟨#[99, 99]⟩ ∧ g 48 = .int .i64 0 ∧ Ext h26 h') ?_ ?_
  · refine WP_tree (by kernel_rfl) sta_ext (.quiet 0 (.quiet 1 (.quiet 2 (.quiet 3 (.quiet 4 (.quiet 5 (.quiet 6 (.quiet 7 (.fin))))))))) (by kernel_rfl) rfl (by kernel_rfl) ?_
    simp only [k1, k2, b3, b4, b5, b19, b20, splice, coreS, Value.cells, Value.oneCell', Nat.reduceAdd, Nat.reduceSub, Nat.reduceMul, Nat.reduceLeDiff, Int.reduceEq, Nat.reduceEqDiff, drawS, treeS, H32Fs19]
    refine cQ_ext _ (fun h' x' => CallsH.mono (to49 2 3 h') fun v h'' q => ⟨q.1, q.2⟩) ?_
    simp only [rgV, k1, k2, b3, b4, b5, b19, b20, splice, coreS, Value.cells, Value.oneCell', Nat.reduceAdd, Nat.reduceSub, Nat.reduceMul, Nat.reduceLeDiff, Int.reduceEq, Nat.reduceEqDiff, drawS, treeS, H32Fs19]
    refine cQ_ext _ (fun h' x' => CallsH.mono (surely43 (goodM g1) 2 3 2 h' (ok1.ext x')) fun v h'' q => ⟨q.1, q.2⟩) ?_
    simp only [(v21 g1).1, (v21 g1).2, splice, coreS, Value.cells, Value.oneCell', Nat.reduceAdd, Nat.reduceSub, Nat.reduceMul, Nat.reduceLeDiff, Int.reduceEq, Nat.reduceEqDiff, drawS, treeS, H32Fs19]
    refine execT_fin fun hD xD => ?_
    simp only [coreS, Value.cells, Value.oneCell', Nat.reduceAdd, Nat.reduceSub, Nat.reduceMul, Nat.reduceLeDiff, Int.reduceEq, Nat.reduceEqDiff, H32Fs19]
    exact midK_mk (by kernel_rfl) ⟨rfl, rfl, xD⟩
  rintro f21 h27 ⟨f21a, f21b, x27⟩
  replace k1 := x27.get k1
  replace k2 := x27.get k2
  replace ok1 := ok1.ext x27
  replace ok2 := ok2.ext x27
  replace y := y.trans x27
  replace I1 := I1.ext x27
  replace I2 := I2.ext x27
  replace b3 := x27.get b3
  replace b4 := x27.get b4
  replace b5 := x27.get b5
  replace b19 := x27.get b19
  replace b20 := x27.get b20
  simp only [k1, k2, b3, b4, b5, b19, b20, f21a, f21b, splice, coreS, Value.cells, Value.oneCell', Nat.reduceAdd, Nat.reduceSub, Nat.reduceMul, Nat.reduceLeDiff, Int.reduceEq, Nat.reduceEqDiff, H32Fs19]
  refine WP_cut [49, 50, 169, 170, 171, 172, 173, 174] (fun g h' => g 49 = .string (suP (goodM g1) 1 3 1) ∧ g 50 = .int .i64 22 ∧ Ext h27 h') ?_ ?_
  · refine WP_tree (by kernel_rfl) sta_ext (.quiet 0 (.quiet 1 (.quiet 2 (.quiet 3 (.quiet 4 (.quiet 5 (.quiet 6 (.quiet 7 (.fin))))))))) (by kernel_rfl) rfl (by kernel_rfl) ?_
    simp only [k1, k2, b3, b4, b5, b19, b20, splice, coreS, Value.cells, Value.oneCell', Nat.reduceAdd, Nat.reduceSub, Nat.reduceMul, Nat.reduceLeDiff, Int.reduceEq, Nat.reduceEqDiff, drawS, treeS, H32Fs19]
    refine cQ_ext _ (fun h' x' => CallsH.mono (to49 1 3 h') fun v h'' q => ⟨q.1, q.2⟩) ?_
    simp only [rgV, k1, k2, b3, b4, b5, b19, b20, splice, coreS, Value.cells, Value.oneCell', Nat.reduceAdd, Nat.reduceSub, Nat.reduceMul, Nat.reduceLeDiff, Int.reduceEq, Nat.reduceEqDiff, drawS, treeS, H32Fs19]
    refine cQ_ext _ (fun h' x' => CallsH.mono (surely43 (goodM g1) 1 3 1 h' (ok1.ext x')) fun v h'' q => ⟨q.1, q.2⟩) ?_
    simp only [v22 g1, splice, coreS, Value.cells, Value.oneCell', Nat.reduceAdd, Nat.reduceSub, Nat.reduceMul, Nat.reduceLeDiff, Int.reduceEq, Nat.reduceEqDiff, drawS, treeS, H32Fs19]
    refine execT_fin fun hD xD => ?_
    simp only [coreS, Value.cells, Value.oneCell', Nat.reduceAdd, Nat.reduceSub, Nat.reduceMul, Nat.reduceLeDiff, Int.reduceEq, Nat.reduceEqDiff, H32Fs19]
    exact midK_mk (by kernel_rfl) ⟨rfl, rfl, xD⟩
  rintro f22 h28 ⟨f22a, f22b, x28⟩
  replace k1 := x28.get k1
  replace k2 := x28.get k2
  replace ok1 := ok1.ext x28
  replace ok2 := ok2.ext x28
  replace y := y.trans x28
  replace I1 := I1.ext x28
  replace I2 := I2.ext x28
  replace b3 := x28.get b3
  replace b4 := x28.get b4
  replace b5 := x28.get b5
  replace b19 := x28.get b19
  replace b20 := x28.get b20
  simp only [k1, k2, b3, b4, b5, b19, b20, f22a, f22b, splice, coreS, Value.cells, Value.oneCell', Nat.reduceAdd, Nat.reduceSub, Nat.reduceMul, Nat.reduceLeDiff, Int.reduceEq, Nat.reduceEqDiff, H32Fs19]
  refine WP_cut [51, 52, 175, 176, 177, 178, 179, 180] (fun g h' => g 51 = .string (suP (goodM g1) 7 8 1) ∧ g 52 = .int .i64 3 ∧ Ext h28 h') ?_ ?_
  · refine WP_tree (by kernel_rfl) sta_ext (.quiet 0 (.quiet 1 (.quiet 2 (.quiet 3 (.quiet 4 (.quiet 5 (.quiet 6 (.quiet 7 (.fin))))))))) (by kernel_rfl) rfl (by kernel_rfl) ?_
    simp only [k1, k2, b3, b4, b5, b19, b20, splice, coreS, Value.cells, Value.oneCell', Nat.reduceAdd, Nat.reduceSub, Nat.reduceMul, Nat.reduceLeDiff, Int.reduceEq, Nat.reduceEqDiff, drawS, treeS, H32Fs19]
    refine cQ_ext _ (fun h' x' => CallsH.mono (to49 7 8 h') fun v h'' q => ⟨q.1, q.2⟩) ?_
    simp only [rgV, k1, k2, b3, b4, b5, b19, b20, splice, coreS, Value.cells, Value.oneCell', Nat.reduceAdd, Nat.reduceSub, Nat.reduceMul, Nat.reduceLeDiff, Int.reduceEq, Nat.reduceEqDiff, drawS, treeS, H32Fs19]
    refine cQ_ext _ (fun h' x' => CallsH.mono (surely43 (goodM g1) 7 8 1 h' (ok1.ext x')) fun v h'' q => ⟨q.1, q.2⟩) ?_
    simp only [v23 g1, splice, coreS, Value.cells, Value.oneCell', Nat.reduceAdd, Nat.reduceSub, Nat.reduceMul, Nat.reduceLeDiff, Int.reduceEq, Nat.reduceEqDiff, drawS, treeS, H32Fs19]
    refine execT_fin fun hD xD => ?_
    simp only [coreS, Value.cells, Value.oneCell', Nat.reduceAdd, Nat.reduceSub, Nat.reduceMul, Nat.reduceLeDiff, Int.reduceEq, Nat.reduceEqDiff, H32Fs19]
    exact midK_mk (by kernel_rfl) ⟨rfl, rfl, xD⟩
  rintro f23 h29 ⟨f23a, f23b, x29⟩
  replace k1 := x29.get k1
  replace k2 := x29.get k2
  replace ok1 := ok1.ext x29
  replace ok2 := ok2.ext x29
  replace y := y.trans x29
  replace I1 := I1.ext x29
  replace I2 := I2.ext x29
  replace b3 := x29.get b3
  replace b4 := x29.get b4
  replace b5 := x29.get b5
  replace b19 := x29.get b19
  replace b20 := x29.get b20
  simp only [k1, k2, b3, b4, b5, b19, b20, f23a, f23b, splice, coreS, Value.cells, Value.oneCell', Nat.reduceAdd, Nat.reduceSub, Nat.reduceMul, Nat.reduceLeDiff, Int.reduceEq, Nat.reduceEqDiff, H32Fs19]
  clear hL hR2 f1a f1b f19a f19b f20a f20b f21a f21b f22a f22b f23a f23b u18 u20 u24 e1 e2
  refine execR_quiet [181, 182, 183, 184, 185, 186, 187, 188, 189, 190, 191, 192, 193, 194, 195, 196, 197, 198, 199, 200, 201, 202, 203, 204, 205, 206, 207, 208, 209, 210, 211, 212, 213, 214, 215, 216, 217, 218, 219, 220, 221, 222, 223, 224, 225, 226, 227, 228, 229, 230, 231, 232, 233, 234, 235, 236, 237, 238, 239, 240, 241, 242, 243, 244, 245, 246, 247, 248, 249, 250, 251, 252, 253, 254, 255, 256, 257, 258, 259, 260, 261, 262, 263, 264, 265, 266, 267, 268, 269, 270] (by kernel_rfl) (by kernel_rfl) fun g hg => ?_
  have f24 : g 270 = .bool false := by rw [hg]; kernel_rfl
  clear hg
  simp only [k1, k2, b3, b4, b5, b19, b20, f24, splice, coreS, Value.cells, Value.oneCell', Nat.reduceAdd, Nat.reduceSub, Nat.reduceMul, Nat.reduceLeDiff, Int.reduceEq, Nat.reduceEqDiff, H32Fs19]
  have hcr := ckr_of (m := goodM g1) (x := 3) (p := p) (q := q) (u := u) (opn_one g1 (by decide)) hp1 hp2 hp3 (run_lt good_ok (by decide) hp1) (by omega) (by omega)
  refine CallsH.mono (ckr36 (goodM g1) 3 (planS p) (planS q) _ ok1 (by rw [planS_size]; omega) (by rw [planS_size]; omega)) ?_
  rintro v h30 ⟨rfl, x30⟩
  replace k1 := x30.get k1
  replace k2 := x30.get k2
  replace ok1 := ok1.ext x30
  replace ok2 := ok2.ext x30
  replace y := y.trans x30
  replace I1 := I1.ext x30
  replace I2 := I2.ext x30
  replace b3 := x30.get b3
  replace b4 := x30.get b4
  replace b5 := x30.get b5
  replace b19 := x30.get b19
  replace b20 := x30.get b20
  simp only [k1, k2, b3, b4, b5, b19, b20, hcr.1, ratV, splice, coreS, Value.cells, Value.oneCell', Nat.reduceAdd, Nat.reduceSub, Nat.reduceMul, Nat.reduceLeDiff, Int.reduceEq, Nat.reduceEqDiff, H32Fs19]
  refine stK_abs push_new (by simp) fun h31 g31 u31 => ?_
  have x31 : Ext h30 h31 := u31.ext ((Ext.refl h30).push _) (Nat.le_refl _)
  replace k1 := x31.get k1
  replace k2 := x31.get k2
  replace ok1 := ok1.ext x31
  replace ok2 := ok2.ext x31
  replace y := y.trans x31
  replace I1 := I1.ext x31
  replace I2 := I2.ext x31
  replace b3 := x31.get b3
  replace b4 := x31.get b4
  replace b5 := x31.get b5
  replace b19 := x31.get b19
  replace b20 := x31.get b20
  simp only [k1, k2, b3, b4, b5, b19, b20, splice, coreS, Value.cells, Value.oneCell', Nat.reduceAdd, Nat.reduceSub, Nat.reduceMul, Nat.reduceLeDiff, Int.reduceEq, Nat.reduceEqDiff, H32Fs19]
  refine WP_tree (by kernel_rfl) sta_ext (.quiet 0 (.quiet 1 (.quiet 2 (.quiet 3 (.quiet 4 (.quiet 5 (.quiet 6 (.quiet 7 (.quiet 8 (.quiet 9 (.quiet 10 (.quiet 11 (.quiet 12 (.quiet 13 (.quiet 14 (.quiet 15 (.quiet 16 (.quiet 17 (.quiet 18 (.quiet 19 (.keep 20 (.quiet 21 (.quiet 22 (.quiet 23 (.quiet 24 (.quiet 25 (.keep 26 (.quiet 27 (.quiet 28 (.quiet 29 (.quiet 30 (.quiet 31 (.quiet 32 (.quiet 33 (.quiet 34 (.quiet 35 (.quiet 36 (.quiet 37 (.quiet 38 (.quiet 39 (.quiet 40 (.quiet 41 (.quiet 42 (.quiet 43 (.quiet 44 (.quiet 45 (.quiet 46 (.quiet 47 (.quiet 48 (.quiet 49 (.quiet 50 (.quiet 51 (.quiet 52 (.quiet 53 (.fin))))))))))))))))))))))))))))))))))))))))))))))))))))))) (by kernel_rfl) rfl (by kernel_rfl) ?_
  simp only [k1, k2, b3, b4, b5, b19, b20, splice, decide_true, coreS, Value.cells, Value.oneCell', Nat.reduceAdd, Nat.reduceSub, Nat.reduceMul, Nat.reduceLeDiff, Int.reduceEq, Nat.reduceEqDiff, drawS, treeS, H32Fs19]
  have hx31 := y.size
  refine execT_keep fun hA xA => ?_
  simp only [splice, coreS, Value.cells, Value.oneCell', Nat.reduceAdd, Nat.reduceSub, Nat.reduceMul, Nat.reduceLeDiff, Int.reduceEq, Nat.reduceEqDiff, drawS, treeS, H32Fs19]
  refine ⟨(Ext.refl hA).push _, ?_⟩
  refine cQ_ext _ (fun h' x' => CallsH.mono (of54 _ h') fun v h'' q => ⟨q.1, by rw [q.2]; exact Ext.refl _⟩) ?_
  simp only [coreS, Value.cells, Value.oneCell', Nat.reduceAdd, Nat.reduceSub, Nat.reduceMul, Nat.reduceLeDiff, Int.reduceEq, Nat.reduceEqDiff, drawS, treeS, H32Fs19]
  refine cQ_ext _ (fun h' x' => CallsH.mono (ints32 a1 (some ⟨hA.size, 0, none⟩) _ _ 8 8 _ [0, 0, -1, -1, -1, -1, -1, -1] h' (I1.ext ((xA.push _).trans x')) (IntsV.block (xs := [0, 0, -1, -1, -1, -1, -1, -1]) (x'.get push_new)) (by show (8 : Nat) ≤ _; omega) (by omega)) fun v h'' q => ⟨q.1, by rw [q.2]; exact Ext.refl _⟩) ?_
  simp only [decide_true, coreS, Value.cells, Value.oneCell', Nat.reduceAdd, Nat.reduceSub, Nat.reduceMul, Nat.reduceLeDiff, Int.reduceEq, Nat.reduceEqDiff, drawS, treeS, H32Fs19]
  refine execT_keep fun hB xB => ?_
  simp only [splice, coreS, Value.cells, Value.oneCell', Nat.reduceAdd, Nat.reduceSub, Nat.reduceMul, Nat.reduceLeDiff, Int.reduceEq, Nat.reduceEqDiff, drawS, treeS, H32Fs19]
  refine ⟨(Ext.refl hB).push _, ?_⟩
  refine cQ_ext _ (fun h' x' => CallsH.mono (of54 _ h') fun v h'' q => ⟨q.1, by rw [q.2]; exact Ext.refl _⟩) ?_
  simp only [coreS, Value.cells, Value.oneCell', Nat.reduceAdd, Nat.reduceSub, Nat.reduceMul, Nat.reduceLeDiff, Int.reduceEq, Nat.reduceEqDiff, drawS, treeS, H32Fs19]
  refine cQ_ext _ (fun h' x' => CallsH.mono (ints32 a2 (some ⟨hB.size, 0, none⟩) _ _ 8 8 _ [0, 0, 0, 0, 1, 1, 0, 0] h' (I2.ext ((((xA.push _).trans xB).push _).trans x')) (IntsV.block (xs := [0, 0, 0, 0, 1, 1, 0, 0]) (x'.get push_new)) (by show (8 : Nat) ≤ _; omega) (by omega)) fun v h'' q => ⟨q.1, by rw [q.2]; exact Ext.refl _⟩) ?_
  obtain ⟨hF, hhF⟩ : ∃ hF, hF = hB.push (.cells (Eng.ints [0, 0, 0, 0, 1, 1, 0, 0]).toArray 3) := ⟨_, rfl⟩
  have xF : Ext h31 hF := by rw [hhF]; exact ((xA.push _).trans xB).push _
  have b3F := xF.get b3
  have b5F := xF.get b5
  have b19F := xF.get b19
  simp only [Eng.ints, List.map] at hhF
  rw [← hhF]
  simp only [decide_true, b3F, b5F, b19F, splice, coreS, Value.cells, Value.oneCell', Nat.reduceAdd, Nat.reduceSub, Nat.reduceMul, Nat.reduceLeDiff, Int.reduceEq, Nat.reduceEqDiff, drawS, treeS, H32Fs19]
  refine cQ_ext _ (fun h' x' => CallsH.mono (by55 1 1 h') fun v h'' q => ⟨q.1, q.2⟩) ?_
  simp only [coreS, Value.cells, Value.oneCell', Nat.reduceAdd, Nat.reduceSub, Nat.reduceMul, Nat.reduceLeDiff, Int.reduceEq, Nat.reduceEqDiff, drawS, treeS, H32Fs19]
  refine eq2Q (u := 45) (b := true) (by kernel_rfl) (xs := [((1 : Nat) : Int), ((1 : Nat) : Int)]) (ys := [1, 1]) rfl rfl rfl rfl (by decide) ?_
  simp only [b3F, b5F, b19F, splice, decide_true, coreS, Value.cells, Value.oneCell', Nat.reduceAdd, Nat.reduceSub, Nat.reduceMul, Nat.reduceLeDiff, Int.reduceEq, Nat.reduceEqDiff, drawS, treeS, H32Fs19]
  refine eq2Q (u := 45) (b := true) (by kernel_rfl) (xs := [((1 : Nat) : Int), ((1 : Nat) : Int)]) (ys := [((1 : Nat) : Int), ((1 : Nat) : Int)]) rfl rfl rfl rfl (by decide) ?_
  simp only [b3F, b5F, b19F, splice, decide_true, coreS, Value.cells, Value.oneCell', Nat.reduceAdd, Nat.reduceSub, Nat.reduceMul, Nat.reduceLeDiff, Int.reduceEq, Nat.reduceEqDiff, drawS, treeS, H32Fs19]
  refine cQ_ext _ (fun h' x' => CallsH.mono (to49 6 7 h') fun v h'' q => ⟨q.1, q.2⟩) ?_
  simp only [rgV, coreS, Value.cells, Value.oneCell', Nat.reduceAdd, Nat.reduceSub, Nat.reduceMul, Nat.reduceLeDiff, Int.reduceEq, Nat.reduceEqDiff, drawS, treeS, H32Fs19]
  refine eq2Q (u := 54) (b := true) (by kernel_rfl) (xs := [6, 7]) (ys := [6, 7]) rfl rfl rfl rfl (by decide) ?_
  simp only [b3F, b5F, b19F, splice, decide_true, coreS, Value.cells, Value.oneCell', Nat.reduceAdd, Nat.reduceSub, Nat.reduceMul, Nat.reduceLeDiff, Int.reduceEq, Nat.reduceEqDiff, drawS, treeS, H32Fs19]
  refine execT_fin fun hD xD => ?_
  simp only [decide_true, coreS, Value.cells, Value.oneCell', Nat.reduceAdd, Nat.reduceSub, Nat.reduceMul, Nat.reduceLeDiff, Int.reduceEq, Nat.reduceEqDiff, H32Fs19]
  exact y.trans (xF.trans xD)
end Go.Proofs.YtafemfjhflfdeaaDoor
end
section
set_option linter.unusedVariables false
set_option linter.unusedSimpArgs false
namespace Go.Eng
open Go Go.ChangeShapes Go.WideShapes Go.ChangeAt Go.RowKit
section rowkit
variable {P : Program} {H : Type} {enc : TypeId × Value → H}
theorem same_of {W W' : World} (x : Ext W.heap W'.heap) {p : MemPlace} (hp : p.block < W.heap.size) : W.sameAt W' p := by
  have h := x.old p.block hp
  cases p with
  | cell b o => exact World.cell?_of_block (w := W) h
  | map b => exact h
theorem trodAll_ext (hl : laidOutB P = true) {W W' : World} (x : Ext W.heap W'.heap) {sp : Nat → Bool} : ∀ {ts : List TypeId} {vs : List Value} {ds : List (DataW H)} {ps : List MemPlace},
    (ts.all fun t => P.readableRec t && decide (t < P.types.size)) = true → DataW.TrodAll enc P W 0 (fun _ => true) true ts vs ds ps → (∀ p ∈ ps, p.block < W.heap.size) → (∀ p ∈ ps, sp p.block = true) → DataW.TrodAll enc P W' 0 sp true ts vs ds ps
  | [], [], [], ps, _, h, _, _ => h
  | t :: ts, v :: vs, d :: ds, ps, ht, ⟨p, q, h1, h2, he⟩, hb, hs => by
    subst he
    simp only [List.all_cons, Bool.and_eq_true, decide_eq_true_eq] at ht
    exact ⟨p, q, WideElems.Trod_stays hl ht.1.1 ht.1.2 h1 (fun y hy => same_of x (hb y (by simp [hy]))) (fun y hy => hs y (by simp [hy])),
      trodAll_ext hl x (by simpa using ht.2) h2 (fun y hy => hb y (by simp [hy])) (fun y hy => hs y (by simp [hy])), rfl⟩
theorem open_slice {W : World} {base b0 : Nat} {r : Reach} {sp : Nat → Bool} {held : Bool} {t e : TypeId} {v : Value} {d : DataW H} {ps : List MemPlace} (ht : P.underlying t = some (.slice e)) (he : P.underlying e = some (.int .i64)) (hc : P.cellsOf e = 1)
    (hval : Value.okWide P W r b0 t v) (hd : DataW.Trod enc P W base sp held t v d ps) : ∃ a n c xs, v = .slice a n c ∧ IntsV W.heap a n xs ∧ n ≤ c ∧ c ≤ maxLen ∧ ∀ x ∈ xs, (Lit.int .i64 x).wf = true := by
  obtain ⟨a0, n, c, rfl⟩ := okWide_slice ht hval
  obtain ⟨fuel, hf⟩ := hd
  rcases open_ints ht he hc hf with ⟨hcs, _⟩ | ⟨a, len, cap, zs, hcs, _, hl, hm, hz, _, hcell, hw⟩
  · simp [Value.cells] at hcs
    obtain ⟨rfl, rfl, rfl⟩ := hcs
    exact ⟨none, 0, 0, [], rfl, IntsV.nil _, by omega, by omega, by simp⟩
  · simp [Value.cells] at hcs
    obtain ⟨rfl, rfl, rfl⟩ := hcs
    have hlz : n ≤ zs.length := by rw [hz]; split <;> omega
    refine ⟨some a, n, c, zs.take n, rfl, ⟨by simp; omega, ?_⟩, hl, hm, fun x hx => hw x (List.mem_of_mem_take hx)⟩
    by_cases hn : n = 0
    · left; subst hn; simp [Eng.ints]
    · right
      have h0 := hcell 0 (by omega)
      have key : ∀ i u, W.cell? (a.add i) = some u → (i = 0 → a.spot = none) ∧ ∃ cur ct fr, W.heap[a.block]? = some (.cells cur ct fr) ∧ cur[a.off + i]? = some u := by
        intro i u hu
        unfold World.cell? Addr.add at hu
        by_cases hi : i = 0
        · subst hi
          simp only [if_true] at hu
          split at hu <;> simp_all
        · simp only [hi, if_false] at hu
          split at hu <;> simp_all
      obtain ⟨hsp, cur, ct, fr, hb, _⟩ := key 0 _ h0
      have hcur : ∀ i, i < zs.length → cur[a.off + i]? = some (.int .i64 (zs.getD i 0)) := fun i hi => by
        obtain ⟨_, cur2, ct2, fr2, hb2, hc2⟩ := key i _ (hcell i hi)
        rw [hb] at hb2
        cases hb2
        exact hc2
      have hsz : a.off + n ≤ cur.size := by
        have := hcur (n - 1) (by omega)
        have := (Array.getElem?_eq_some_iff.1 this).1
        omega
      obtain ⟨b, off, spot⟩ := a
      replace hsp := hsp rfl
      simp only at hsp hb hcur hsz
      subst hsp
      refine ⟨b, off, cur, ct, fr, rfl, hb, by simp [Eng.ints_length]; omega, ?_⟩
      apply List.ext_getElem?
      intro i
      rw [Eng.ints_length, List.length_take, List.getElem?_take, List.getElem?_drop]
      by_cases hi : i < n
      · rw [if_pos (by omega), Array.getElem?_toList, hcur i (by omega), Eng.ints_getElem? _ _ (by simp; omega)]
        simp [List.getD, List.getElem?_take, hi]
      · rw [if_neg (by omega), List.getElem?_eq_none]
        rw [Eng.ints_length, List.length_take]; omega
theorem calls_ext {f : FuncId} {args : Array Value} {W : World} {b : Bool} (hc : CallsH P f args W.heap (fun v h' => v = .bool b ∧ Ext W.heap h')) : Calls P f args W fun e W' => e = .returned (.bool b) ∧ Ext W.heap W'.heap ∧ Rest W W' := by
  unfold CallsH CallsW at hc
  refine Calls.mono (hc.2 W rfl) ?_
  rintro e W' ⟨v, rfl, ⟨rfl, x⟩, r⟩
  exact ⟨rfl, x, r⟩
end rowkit
end Go.Eng
end
section
set_option linter.unusedVariables false
set_option linter.unusedSimpArgs false
namespace Go.Eng
open Go Go.ChangeShapes Go.WideShapes Go.ChangeAt Go.RowKit
def bytesV (xs : List Int) : List Value := xs.map fun x => .int .u8 x
theorem bytesV_length (xs : List Int) : (bytesV xs).length = xs.length := List.length_map _
theorem bytesV_get (xs : List Int) {i : Nat} (h : i < (bytesV xs).length) : (bytesV xs)[i] = .int .u8 (xs[i]'(by simpa [bytesV] using h)) := by simp [bytesV]
theorem open_bytes {P : Program} {H : Type} {enc : TypeId × Value → H} {W : World} {base b0 : Nat} {r : Reach} {sp : Nat → Bool} {held : Bool} {t e : TypeId} {v : Value} {d : DataW H} {ps : List MemPlace} (ht : P.underlying t = some (.slice e)) (he : P.underlying e = some (.int .u8)) (hc : P.cellsOf e = 1)
    (hval : Value.okWide P W r b0 t v) (hd : DataW.Trod enc P W base sp held t v d ps) : ∃ a n c xs, v = .slice a n c ∧ (n = xs.length ∧ n ≤ c) ∧ Row W.heap a (bytesV xs) ∧ n ≤ 9223372036854775807 ∧ ∀ x ∈ xs, 0 ≤ x ∧ x ≤ 255 := by
  obtain ⟨a0, n, c, rfl⟩ := okWide_slice ht hval
  obtain ⟨fuel, hf⟩ := hd
  rcases open_ints ht he hc hf with ⟨hcs, _⟩ | ⟨a, len, cap, zs, hcs, _, hl, hm, hz, _, hcell, hw⟩
  · simp [Value.cells] at hcs
    obtain ⟨rfl, rfl, rfl⟩ := hcs
    exact ⟨none, 0, 0, [], rfl, ⟨rfl, Nat.le_refl _⟩, .inl rfl, by omega, by simp⟩
  · simp [Value.cells] at hcs
    obtain ⟨rfl, rfl, rfl⟩ := hcs
    have hlz : n ≤ zs.length := by rw [hz]; split <;> omega
    refine ⟨some a, n, c, zs.take n, rfl, ⟨by simp; omega, hl⟩, ?_, Nat.le_trans hl hm, fun x hx => bounds_u8 (hw x (List.mem_of_mem_take hx))⟩
    by_cases hn : n = 0
    · left; subst hn; simp [bytesV]
    · right
      have h0 := hcell 0 (by omega)
      have key : ∀ i u, W.cell? (a.add i) = some u → (i = 0 → a.spot = none) ∧ ∃ cur ct fr, W.heap[a.block]? = some (.cells cur ct fr) ∧ cur[a.off + i]? = some u := by
        intro i u hu
        unfold World.cell? Addr.add at hu
        by_cases hi : i = 0
        · subst hi
          simp only [if_true] at hu
          split at hu <;> simp_all
        · simp only [hi, if_false] at hu
          split at hu <;> simp_all
      obtain ⟨hsp, cur, ct, fr, hb, _⟩ := key 0 _ h0
      have hcur : ∀ i, i < zs.length → cur[a.off + i]? = some (.int .u8 (zs.getD i 0)) := fun i hi => by
        obtain ⟨_, cur2, ct2, fr2, hb2, hc2⟩ := key i _ (hcell i hi)
        rw [hb] at hb2
        cases hb2
        exact hc2
      have hsz : a.off + n ≤ cur.size := by
        have := hcur (n - 1) (by omega)
        have := (Array.getElem?_eq_some_iff.1 this).1
        omega
      obtain ⟨b, off, spot⟩ := a
      replace hsp := hsp rfl
      simp only at hsp hb hcur hsz
      subst hsp
      refine ⟨b, off, cur, ct, fr, rfl, hb, by simp [bytesV_length]; omega, ?_⟩
      apply List.ext_getElem?
      intro i
      rw [bytesV_length, List.length_take, List.getElem?_take, List.getElem?_drop]
      by_cases hi : i < n
      · rw [if_pos (by omega), Array.getElem?_toList, hcur i (by omega), bytesV, List.getElem?_map, List.getElem?_take, if_pos hi]
        have hi2 : i < zs.length := by omega
        simp [List.getD, hi2]
      · rw [if_neg (by omega), List.getElem?_eq_none]
        rw [bytesV_length, List.length_take]; omega
theorem row_of {W : World} {a : Addr} {vs : List Value} (hc : ∀ i (hi : i < vs.length), W.cell? (a.add i) = some vs[i]) : Row W.heap (some a) vs := by
  by_cases hn : vs.length = 0
  · left; exact List.eq_nil_of_length_eq_zero hn
  right
  have key : ∀ i u, W.cell? (a.add i) = some u → (i = 0 → a.spot = none) ∧ ∃ cur ct fr, W.heap[a.block]? = some (.cells cur ct fr) ∧ cur[a.off + i]? = some u := by
    intro i u hu
    unfold World.cell? Addr.add at hu
    by_cases hi : i = 0
    · subst hi
      simp only [if_true] at hu
      split at hu <;> simp_all
    · simp only [hi, if_false] at hu
      split at hu <;> simp_all
  obtain ⟨hsp, cur, ct, fr, hb, _⟩ := key 0 _ (hc 0 (by omega))
  have hcur : ∀ i (hi : i < vs.length), cur[a.off + i]? = some vs[i] := fun i hi => by
    obtain ⟨_, cur2, ct2, fr2, hb2, hc2⟩ := key i _ (hc i hi)
    rw [hb] at hb2
    cases hb2
    exact hc2
  have hsz : a.off + vs.length ≤ cur.size := by
    have := hcur (vs.length - 1) (by omega)
    have := (Array.getElem?_eq_some_iff.1 this).1
    omega
  obtain ⟨b, off, spot⟩ := a
  replace hsp := hsp rfl
  simp only at hsp hb hcur hsz
  subst hsp
  refine ⟨b, off, cur, ct, fr, rfl, hb, hsz, ?_⟩
  apply List.ext_getElem?
  intro i
  rw [List.getElem?_take, List.getElem?_drop]
  by_cases hi : i < vs.length
  · rw [if_pos hi, Array.getElem?_toList, hcur i hi, List.getElem?_eq_getElem hi]
  · rw [if_neg hi, List.getElem?_eq_none (by omega)]
theorem list_choose {α : Type} {p : Nat → α → Prop} : ∀ n, (∀ i < n, ∃ x, p i x) → ∃ l : List α, l.length = n ∧ ∀ i (hi : i < l.length), p i l[i]
  | 0, _ => ⟨[], rfl, fun i hi => by simp at hi⟩
  | n + 1, H => by
    obtain ⟨l, hl, h⟩ := list_choose n fun i hi => H i (by omega)
    obtain ⟨x, hx⟩ := H n (by omega)
    refine ⟨l ++ [x], by simp [hl], fun i hi => ?_⟩
    by_cases hin : i < l.length
    · rw [List.getElem_append_left hin]; exact h i hin
    · have : i = l.length := by simp at hi; omega
      subst this
      rw [List.getElem_append_right (Nat.le_refl _)]
      simpa [hl] using hx
end Go.Eng
end
section
namespace Go.Proofs.YtafemfjhflfdeaaDoor
open Go Go.Proofs Go.Eng Tab Go.ChangeShapes Go.WideShapes Go.ChangeAt Go.RowKit
set_option maxRecDepth 100000
set_option linter.unusedSimpArgs false
set_option linter.unusedVariables false
section opens
variable {H : Type} {enc : TypeId × Value → H} {W : World} {base b0 : Nat} {r : Reach} {sp : Nat → Bool} {held : Bool} {v : Value} {d : DataW H} {ps : List MemPlace}
theorem cel3 : Tryd.prog.cellsOf 3 = 1 := by kernel_rfl
theorem cel22 : Tryd.prog.cellsOf 22 = 1 := by kernel_rfl
theorem cel24 : Tryd.prog.cellsOf 24 = 4 := by kernel_rfl
theorem trod_ints {fuel : Nat} {cs : List Value} {x : DataW H × List MemPlace} (h : DataW.trod enc Tryd.prog W base sp held fuel 22 cs = some x) : ∃ a n c xs, cs = [.slice a n c] ∧ IntsV W.heap a n xs := by
  rcases DataW.trod_slice Tryd.underlying22 h with ⟨rfl, _⟩ | ⟨a, len, cap, elems, rest, m, rfl, rfl, rfl, hb, hl, hm, hlen, hel, _, _⟩
  · exact ⟨none, 0, 0, [], rfl, IntsV.nil _⟩
  rw [cel3] at hel
  have each : ∀ i, i < len → ∃ e : Int, W.cell? (a.add i) = some (.int .i64 e) := by
    intro i hi
    have h1 := hel i hi
    rw [List.getElem?_eq_getElem (by omega), Option.bind_eq_some_iff] at h1
    obtain ⟨cs, h2, h3⟩ := h1
    obtain ⟨e, rfl, _⟩ := DataW.trod_int Tryd.underlying3 h3
    refine ⟨e, ?_⟩
    have h4 := (World.cells?_some h2).2.2 0 (by omega)
    rw [Nat.mul_one] at h4
    have e0 : (a.add i).add 0 = a.add i := by
      unfold Addr.add
      split <;> simp_all
    rw [e0] at h4
    rw [h4]
    rfl
  obtain ⟨es, hes, hE⟩ := list_choose len each
  have hr : Row W.heap (some a) (Eng.ints es) := row_of fun i hi => by
    rw [Eng.ints_length] at hi
    rw [hE i hi]
    simp [Eng.ints]
  exact ⟨some a, len, cap, es, rfl, hes.symm ▸ rfl, hr⟩
theorem open_mould (hval : Value.okWide Tryd.prog W r b0 24 v) (hd : DataW.Trod enc Tryd.prog W base sp held 24 v d ps) : ∃ m : MV, v = m.val ∧ IntsV W.heap m.a m.casts.length m.casts ∧ IntsV W.heap m.b m.waits.length m.waits := by
  obtain ⟨cs, rfl, hs⟩ := okWide_struct Tryd.underlying24 hval
  obtain ⟨fuel, hf⟩ := hd
  obtain ⟨xs, n, rfl, _, hl, hxl, hf⟩ := DataW.trod_struct Tryd.underlying24 hf
  rw [cel24] at hl
  simp only [Value.cells] at hl hf
  obtain ⟨cs⟩ := cs
  simp only at hl hf
  obtain ⟨c0, c1, c2, c3, rfl⟩ : ∃ c0 c1 c2 c3, cs = [c0, c1, c2, c3] := by
    match cs, hl with
    | [c0, c1, c2, c3], _ => exact ⟨_, _, _, _, rfl⟩
  obtain ⟨y0, y1, y2, y3, rfl⟩ : ∃ y0 y1 y2 y3, xs = [y0, y1, y2, y3] := by
    match xs, hxl with
    | [y0, y1, y2, y3], _ => exact ⟨_, _, _, _, rfl⟩
  have f0 : DataW.trod enc Tryd.prog W base sp held n 22 (([c0, c1, c2, c3].drop 0).take (Tryd.prog.cellsOf 22)) = some y0 := hf 0 _ rfl
  have f1 : DataW.trod enc Tryd.prog W base sp held n 22 (([c0, c1, c2, c3].drop 1).take (Tryd.prog.cellsOf 22)) = some y1 := hf 1 _ rfl
  have f2 : DataW.trod enc Tryd.prog W base sp held n 3 (([c0, c1, c2, c3].drop 2).take (Tryd.prog.cellsOf 3)) = some y2 := hf 2 _ rfl
  have f3 : DataW.trod enc Tryd.prog W base sp held n 3 (([c0, c1, c2, c3].drop 3).take (Tryd.prog.cellsOf 3)) = some y3 := hf 3 _ rfl
  rw [cel22] at f0 f1
  rw [cel3] at f2 f3
  obtain ⟨a0, n0, k0, x0, e0, i0⟩ := trod_ints f0
  obtain ⟨a1, n1, k1, x1, e1, i1⟩ := trod_ints f1
  obtain ⟨n2, e2, _, w2⟩ := DataW.trod_int Tryd.underlying3 f2
  obtain ⟨n3, e3, _, w3⟩ := DataW.trod_int Tryd.underlying3 f3
  simp at e0 e1 e2 e3
  subst e0 e1 e2 e3
  have l0 := i0.len
  have l1 := i1.len
  subst l0 l1
  exact ⟨⟨x0, x1, n2, n3, a0, a1, k0, k1⟩, rfl, i0, i1⟩
end opens
end Go.Proofs.YtafemfjhflfdeaaDoor
end
section
namespace Go.Proofs.YtafemfjhflfdeaaDoor
open Go Go.Proofs Go.Eng Go.Run Tab
set_option maxRecDepth 100000
set_option linter.unusedSimpArgs false
set_option linter.unusedVariables false
set_option linter.defProp false
set_option maxHeartbeats 8000000
set_option linter.defProp false
def H36Fs47 := (And.intro @agg24 (And.intro @inf24 @sz24))
def H36Fs48 := (And.intro (And.intro (And.intro (And.intro @agg22 @agg24) (And.intro @agg3 @agg5)) (And.intro (And.intro @by3 @by5) (And.intro @fo24_0 (And.intro @fo24_1 @inf22)))) (And.intro (And.intro (And.intro @inf24 @inf3) (And.intro @inf5 @sz22)) (And.intro (And.intro @sz24 @sz3) (And.intro @sz5 (And.intro @Tryd.underlying22 @Tryd.underlying63)))))
def H36Fs50 := (And.intro (And.intro @agg5 @by5) (And.intro @inf5 (And.intro @sz5 @Tryd.underlying63)))
def okM (m : MV) : Bool := !decide (24 < m.casts.length ∨ 24 < m.waits.length) && decide (chk m = 0)
theorem okM_iff {m : MV} : okM m = true ↔ ¬ (24 < m.casts.length ∨ 24 < m.waits.length) ∧ chk m = 0 := by
  unfold okM
  rw [Bool.and_eq_true, decide_eq_true_eq]
  by_cases h : 24 < m.casts.length ∨ 24 < m.waits.length <;> simp [h]
theorem fine47 (m : MV) (h : Eng.Heap) (hc : IntsV h m.a m.casts.length m.casts) (hw : IntsV h m.b m.waits.length m.waits) :
    CallsH Tryd.prog 47 #[m.val] h (fun v h' => v = .bool (okM m) ∧ Ext h h') := by
  (refine CallsH_of_exec Tryd.func47 rfl bod47 ?_; simp only [Tryd.ntmps47, Tryd.results47, coreS, stK_some, splice, Value.cells, Value.oneCell', Nat.reduceAdd, Nat.reduceSub, Nat.reduceMul, Nat.reduceLeDiff, Int.reduceEq, Nat.reduceEqDiff, H36Fs47])
  have hb := push_new (h := h) (o := .cells #[.slice m.a m.casts.length m.ca, .slice m.b m.waits.length m.cb, .int .i64 m.lo, .int .i64 m.hi] 24)
  have x0 : Ext h (h.push (.cells #[.slice m.a m.casts.length m.ca, .slice m.b m.waits.length m.cb, .int .i64 m.lo, .int .i64 m.hi] 24)) := (Ext.refl h).push _
  have hval : Value.agg #[.slice m.a m.casts.length m.ca, .slice m.b m.waits.length m.cb, .int .i64 m.lo, .int .i64 m.hi] = m.val := rfl
  refine CallsH.mono (great17 m _) ?_
  rintro v h1 ⟨rfl, x1⟩
  have y1 := x0.trans x1
  have b1 := x1.get hb
  by_cases hg : 24 < m.casts.length ∨ 24 < m.waits.length
  · simp only [hg, decide_true, Bool.not_true, gd_none, coreS, Value.cells, Value.oneCell', Nat.reduceAdd, Nat.reduceSub, Nat.reduceMul, Nat.reduceLeDiff, Int.reduceEq, Nat.reduceEqDiff, H36Fs47]
    exact ⟨by simp [okM, hg], y1⟩
  · have hm : m.ok h := ⟨hc, hw, by omega, by omega⟩
    simp only [hg, b1, decide_false, Bool.not_false, gd_none, splice, coreS, Value.cells, Value.oneCell', Nat.reduceAdd, Nat.reduceSub, Nat.reduceMul, Nat.reduceLeDiff, Int.reduceEq, Nat.reduceEqDiff, H36Fs47]
    rw [hval]
    refine CallsH.mono (chk23 m _ (hm.ext y1)) ?_
    rintro v h2 ⟨rfl, x2⟩
    simp only [coreS, Value.cells, Value.oneCell', Nat.reduceAdd, Nat.reduceSub, Nat.reduceMul, Nat.reduceLeDiff, Int.reduceEq, Nat.reduceEqDiff, H36Fs47]
    exact ⟨by simp [okM, hg], y1.trans x2⟩
def oddB (x : Int) : Bool := decide (x.tmod 2 = 1)
def oddL (xs : List Int) : List Bool := xs.map oddB
theorem oddL_length (xs : List Int) : (oddL xs).length = xs.length := List.length_map _
theorem oddL_next (xs : List Int) {i : Nat} (hi : i < xs.length) : oddL (xs.take (i + 1)) = oddL (xs.take i) ++ [oddB xs[i]] := by
  unfold oddL
  rw [List.take_add_one, List.getElem?_eq_getElem hi, Option.toList_some, List.map_append]
  rfl
theorem planS_one (b : Bool) : planS [b] = if b then ⟨#[99]⟩ else ⟨#[119]⟩ := by cases b <;> rfl
theorem planS_add (p q : List Bool) : planS (p ++ q) = planS p ++ planS q := by
  apply ByteArray.ext
  simp [planS]
theorem letters50 (a : Option Addr) (n c : Nat) (xs : List Int) (h : Eng.Heap) (hn : n = xs.length) (hr : Row h a (bytesV xs)) (hx : ∀ x ∈ xs, 0 ≤ x ∧ x ≤ 255) (hl : n ≤ 100) :
    CallsH Tryd.prog 50 #[.slice a n c] h (fun v h' => v = .string (planS (oddL xs)) ∧ h' = h) := by
  (refine CallsH_of_exec Tryd.func50 rfl bod50 ?_; simp only [Tryd.ntmps50, Tryd.results50, coreS, stK_some, splice, Value.cells, Value.oneCell', Nat.reduceAdd, Nat.reduceSub, Nat.reduceMul, Nat.reduceLeDiff, Int.reduceEq, Nat.reduceEqDiff, H36Fs50])
  refine WP_loopI [3, 4, 5, 6, 7, 8, 9, 10, 11, 12, 13, 14, 15, 16, 17, 18, 19, 20, 21, 22, 23, 24] (fun g h' => h' = h ∧ ∃ i : Nat, i ≤ n ∧ g 4 = .int .i64 i ∧ g 3 = .string (planS (oddL (xs.take i)))) (fun g _ => match g 4 with | .int _ m => n - m.toNat | _ => 0) ⟨rfl, 0, by omega, rfl, rfl⟩ ?_
  rintro g h' ⟨rfl, i, hin, hg4, hg3⟩
  by_cases hi : i < n
  · have h1 : (i : Int) < n := by omega
    have h2 : (i : Int) < 100 := by omega
    have hcell := hr.cell (j := i) (by rw [bytesV_length]; omega)
    rw [bytesV_get] at hcell
    have hsm : a.isSome = true := hr.isSome (by rw [bytesV_length]; omega)
    have hix : i < xs.length := by omega
    have hnx := congrArg planS (oddL_next xs hix)
    have hsz : (planS (oddL (xs.take i))).size ≤ 100 := by rw [planS_size, oddL_length, List.length_take]; omega
    obtain ⟨bo, hbo⟩ : ∃ bo, oddB xs[i] = bo := ⟨_, rfl⟩
    have hbo2 := hbo
    unfold oddB at hbo2
    rw [hbo, planS_add, planS_one] at hnx
    simp only [hg4, hg3, h1, h2, hcell, Int.toNat_natCast, decide_true, coreS, Value.cells, Value.oneCell', Nat.reduceAdd, Nat.reduceSub, Nat.reduceMul, Nat.reduceLeDiff, Int.reduceEq, Nat.reduceEqDiff, H36Fs50]
    refine ⟨by omega, hsm, by decide, ?_⟩
    cases bo with
    | true =>
      have hq := of_decide_eq_true hbo2
      simp only [hq, hg3, decide_true, coreS, Value.cells, Value.oneCell', Nat.reduceAdd, Nat.reduceSub, Nat.reduceMul, Nat.reduceLeDiff, Int.reduceEq, Nat.reduceEqDiff, H36Fs50]
      refine ⟨by show (((planS (oddL (xs.take i))).size + 1 : Nat) : Int) ≤ _; omega, by rw [inK_i64]; omega, roundK_mk (by kernel_rfl) ⟨rfl, i + 1, by omega, rfl, by rw [hnx]; rfl⟩ ?_⟩
      show n - ((i : Int) + 1).toNat < n - (i : Int).toNat
      omega
    | false =>
      have hq := of_decide_eq_false hbo2
      simp only [hq, hg3, decide_false, coreS, Value.cells, Value.oneCell', Nat.reduceAdd, Nat.reduceSub, Nat.reduceMul, Nat.reduceLeDiff, Int.reduceEq, Nat.reduceEqDiff, H36Fs50]
      refine ⟨by show (((planS (oddL (xs.take i))).size + 1 : Nat) : Int) ≤ _; omega, by rw [inK_i64]; omega, roundK_mk (by kernel_rfl) ⟨rfl, i + 1, by omega, rfl, by rw [hnx]; rfl⟩ ?_⟩
      show n - ((i : Int) + 1).toNat < n - (i : Int).toNat
      omega
  · obtain rfl : i = n := by omega
    have h1 : ¬ (i : Int) < i := by omega
    have ht : xs.take i = xs := List.take_of_length_le (by omega)
    rw [ht] at hg3
    simp only [hg4, hg3, h1, gd_none, decide_false, coreS, Value.cells, Value.oneCell', Nat.reduceAdd, Nat.reduceSub, Nat.reduceMul, Nat.reduceLeDiff, Int.reduceEq, Nat.reduceEqDiff, H36Fs50]
def wkS (o : OV) : Nat → List Bool → Nat
  | t, [] => t
  | t, b :: bs => if (b && o.can (t, t)) = true then wkS o (o.c t) bs else wkS o (o.w t) bs
theorem wkS_lt {o : OV} (ok : o.ok) : ∀ (bs : List Bool) (t : Nat), t < o.n → wkS o t bs < o.n
  | [], t, ht => ht
  | b :: bs, t, ht => by
    rw [wkS]
    split
    · exact wkS_lt ok bs _ (ok.cl t ht)
    · exact wkS_lt ok bs _ (by have := ok.wg t ht; omega)
theorem wk_add {o : OV} : ∀ (p q : List Bool) (t : Nat), o.wk t (p ++ q) = o.wk t p ++ o.wk (wkS o t p) q
  | [], q, t => rfl
  | b :: p, q, t => by
    rw [List.cons_append, OV.wk, OV.wk, wkS]
    split
    · rw [wk_add p q]; rfl
    · rw [wk_add p q]; rfl
theorem wkS_add {o : OV} : ∀ (p q : List Bool) (t : Nat), wkS o t (p ++ q) = wkS o (wkS o t p) q
  | [], q, t => rfl
  | b :: p, q, t => by
    rw [List.cons_append, wkS, wkS]
    split
    · rw [wkS_add p q]
    · rw [wkS_add p q]
theorem wk_length {o : OV} : ∀ (p : List Bool) (t : Nat), (o.wk t p).length = p.length
  | [], t => rfl
  | b :: p, t => by
    rw [OV.wk]
    split <;> rw [List.length_cons, List.length_cons, wk_length p]
theorem working48 (m : MV) (gd : m.Good) (i0 : Nat) (a : Option Addr) (n c : Nat) (xs : List Int) (h : Eng.Heap) (hm : m.ok h) (hi0 : i0 < m.casts.length) (hn : n = xs.length) (hr : Row h a (bytesV xs)) (hx : ∀ x ∈ xs, 0 ≤ x ∧ x ≤ 255) (hl : n ≤ 100) :
    CallsH Tryd.prog 48 #[m.val, .int .i64 (i0 : Int), .slice a n c] h (fun v h' => v = .string (planS (m.ov.wk i0 (oddL xs))) ∧ Ext h h') := by
  (refine CallsH_of_exec Tryd.func48 rfl bod48 ?_; simp only [Tryd.ntmps48, Tryd.results48, coreS, stK_some, splice, Value.cells, Value.oneCell', Nat.reduceAdd, Nat.reduceSub, Nat.reduceMul, Nat.reduceLeDiff, Int.reduceEq, Nat.reduceEqDiff, H36Fs48])
  have hb := push_new (h := h) (o := .cells #[.slice m.a m.casts.length m.ca, .slice m.b m.waits.length m.cb, .int .i64 m.lo, .int .i64 m.hi] 24)
  have x0 : Ext h (h.push (.cells #[.slice m.a m.casts.length m.ca, .slice m.b m.waits.length m.cb, .int .i64 m.lo, .int .i64 m.hi] 24)) := (Ext.refl h).push _
  have hval : Value.agg #[.slice m.a m.casts.length m.ca, .slice m.b m.waits.length m.cb, .int .i64 m.lo, .int .i64 m.hi] = m.val := rfl
  refine WP_loopI [7, 8, 9, 11, 12, 13, 14, 15, 16, 17, 18, 19, 20, 21, 22, 23, 24, 25, 26, 27, 28, 29, 30, 31, 32, 33, 34, 35, 36, 37, 38, 39, 40, 41, 42, 43, 44, 45] (fun g h' => Ext (h.push (.cells #[.slice m.a m.casts.length m.ca, .slice m.b m.waits.length m.cb, .int .i64 m.lo, .int .i64 m.hi] 24)) h' ∧ ∃ i : Nat, i ≤ n ∧ g 9 = .int .i64 i ∧ g 8 = .int .i64 (wkS m.ov i0 (oddL (xs.take i)) : Nat) ∧ g 7 = .string (planS (m.ov.wk i0 (oddL (xs.take i))))) (fun g _ => match g 9 with | .int _ m => n - m.toNat | _ => 0) ⟨Ext.refl _, 0, by omega, rfl, rfl, rfl⟩ ?_
  rintro g h' ⟨xx, i, hin, hg9, hg8, hg7⟩
  have y1 := x0.trans xx
  have b1 := xx.get hb
  by_cases hi : i < n
  · have h1 : (i : Int) < n := by omega
    have h2 : (i : Int) < 100 := by omega
    have hcell := (hr.ext y1).cell (j := i) (by rw [bytesV_length]; omega)
    rw [bytesV_get] at hcell
    have hsm : a.isSome = true := hr.isSome (by rw [bytesV_length]; omega)
    have hix : i < xs.length := by omega
    have hnx := oddL_next xs hix
    have hwk := wk_add (o := m.ov) (oddL (xs.take i)) [oddB xs[i]] i0
    have hws := wkS_add (o := m.ov) (oddL (xs.take i)) [oddB xs[i]] i0
    rw [← hnx] at hwk hws
    have hlt := wkS_lt gd.ok (oddL (xs.take i)) i0 hi0
    obtain ⟨t, ht⟩ : ∃ t, wkS m.ov i0 (oddL (xs.take i)) = t := ⟨_, rfl⟩
    rw [ht] at hg8 hwk hws hlt
    have hlt2 : t < m.casts.length := hlt
    have hsz : (planS (m.ov.wk i0 (oddL (xs.take i)))).size ≤ 100 := by rw [planS_size, wk_length, oddL_length, List.length_take]; omega
    have hwk2 := congrArg planS hwk
    rw [planS_add] at hwk2
    obtain ⟨bo, hbo⟩ : ∃ bo, oddB xs[i] = bo := ⟨_, rfl⟩
    have hbo2 := hbo
    unfold oddB at hbo2
    rw [hbo] at hwk2 hws
    have hm1 := hm.ext y1
    have hcan : (decide (m.lo ≤ (t : Int)) && decide ((t : Int) ≤ m.hi)) = m.ov.can (t, t) := by rw [OV.can, gd.lo, gd.hi]; simp only [Int.ofNat_le]
    simp only [hg9, hg8, hg7, h1, h2, hcell, Int.toNat_natCast, decide_true, coreS, Value.cells, Value.oneCell', Nat.reduceAdd, Nat.reduceSub, Nat.reduceMul, Nat.reduceLeDiff, Int.reduceEq, Nat.reduceEqDiff, H36Fs48]
    refine ⟨by omega, hsm, by decide, ?_⟩
    have wait : ∀ {h9 : Eng.Heap}, Ext h h9 → cellH h9 (eltP m.b t) = some (.int .i64 (m.ov.w t : Int)) := fun x => by
      have := (hm.ext x).w.cell (j := t) (by rw [gd.wl]; exact hlt2)
      rw [this, gd.w t hlt2]
    have cast : ∀ {h9 : Eng.Heap}, Ext h h9 → cellH h9 (eltP m.a t) = some (.int .i64 (m.ov.c t : Int)) := fun x => by
      have := (hm.ext x).c.cell (j := t) hlt2
      rw [this, gd.c t hlt2]
    have hwl := gd.wl
    have sm1 := hm1.c.isSome (by omega)
    have sm2 := hm1.w.isSome (by omega)
    cases bo with
    | true =>
      have hq := of_decide_eq_true hbo2
      simp only [hq, b1, decide_true, splice, coreS, Value.cells, Value.oneCell', Nat.reduceAdd, Nat.reduceSub, Nat.reduceMul, Nat.reduceLeDiff, Int.reduceEq, Nat.reduceEqDiff, H36Fs48]
      rw [hval]
      refine CallsH.mono (can67 m t h') ?_
      rintro v h2 ⟨rfl, x2⟩
      have y2 := y1.trans x2
      have b2 := x2.get b1
      have wait2 := wait y2
      have cast2 := cast y2
      rw [hcan]
      cases hca : m.ov.can (t, t) with
      | true =>
        simp only [wkS, OV.wk, hca, Bool.and_self, if_true] at hwk2 hws
        simp only [coreS, Value.cells, Value.oneCell', Nat.reduceAdd, Nat.reduceSub, Nat.reduceMul, Nat.reduceLeDiff, Int.reduceEq, Nat.reduceEqDiff, H36Fs48]
        refine WP_draw (by kernel_rfl) sta_eq [(0, 0), (1, 0), (2, 0), (3, 0), (4, 0), (5, 0), (6, 0), (7, 0), (8, 0)] (by kernel_rfl) rfl (by kernel_rfl) ?_
        simp only [hg9, hg8, hg7, b2, cast2, Int.toNat_natCast, splice, coreS, Value.cells, Value.oneCell', Nat.reduceAdd, Nat.reduceSub, Nat.reduceMul, Nat.reduceLeDiff, Int.reduceEq, Nat.reduceEqDiff, drawS, H36Fs48]
        refine ⟨by show (((planS (m.ov.wk i0 (oddL (xs.take i)))).size + 1 : Nat) : Int) ≤ _; omega, ⟨by omega, by omega⟩, sm1, ?_⟩
        try simp only [hvK_eq, coreS, Value.cells, Value.oneCell', Nat.reduceAdd, Nat.reduceSub, Nat.reduceMul, Nat.reduceLeDiff, Int.reduceEq, Nat.reduceEqDiff, drawS, H36Fs48]
        refine ⟨by rw [inK_i64]; omega, roundK_mk (by kernel_rfl) ⟨xx.trans x2, i + 1, by omega, rfl, by rw [hws]; rfl, by rw [hwk2]; rfl⟩ ?_⟩
        show n - ((i : Int) + 1).toNat < n - (i : Int).toNat
        omega
      | false =>
        simp only [wkS, OV.wk, hca, Bool.and_false, Bool.false_eq_true, if_false] at hwk2 hws
        simp only [coreS, Value.cells, Value.oneCell', Nat.reduceAdd, Nat.reduceSub, Nat.reduceMul, Nat.reduceLeDiff, Int.reduceEq, Nat.reduceEqDiff, H36Fs48]
        refine WP_draw (by kernel_rfl) sta_eq [(0, 0), (1, 0), (2, 0), (3, 0), (4, 0), (5, 0), (6, 0), (7, 0), (8, 0)] (by kernel_rfl) rfl (by kernel_rfl) ?_
        simp only [hg9, hg8, hg7, b2, wait2, Int.toNat_natCast, splice, coreS, Value.cells, Value.oneCell', Nat.reduceAdd, Nat.reduceSub, Nat.reduceMul, Nat.reduceLeDiff, Int.reduceEq, Nat.reduceEqDiff, drawS, H36Fs48]
        refine ⟨by show (((planS (m.ov.wk i0 (oddL (xs.take i)))).size + 1 : Nat) : Int) ≤ _; omega, ⟨by omega, by omega⟩, sm2, ?_⟩
        try simp only [hvK_eq, coreS, Value.cells, Value.oneCell', Nat.reduceAdd, Nat.reduceSub, Nat.reduceMul, Nat.reduceLeDiff, Int.reduceEq, Nat.reduceEqDiff, drawS, H36Fs48]
        refine ⟨by rw [inK_i64]; omega, roundK_mk (by kernel_rfl) ⟨xx.trans x2, i + 1, by omega, rfl, by rw [hws]; rfl, by rw [hwk2]; rfl⟩ ?_⟩
        show n - ((i : Int) + 1).toNat < n - (i : Int).toNat
        omega
    | false =>
      have hq := of_decide_eq_false hbo2
      simp only [wkS, OV.wk, Bool.false_and, Bool.false_eq_true, if_false] at hwk2 hws
      have wait2 := wait y1
      simp only [hq, gd_none, decide_false, splice, coreS, Value.cells, Value.oneCell', Nat.reduceAdd, Nat.reduceSub, Nat.reduceMul, Nat.reduceLeDiff, Int.reduceEq, Nat.reduceEqDiff, H36Fs48]
      refine WP_draw (by kernel_rfl) sta_eq [(0, 0), (1, 0), (2, 0), (3, 0), (4, 0), (5, 0), (6, 0), (7, 0), (8, 0)] (by kernel_rfl) rfl (by kernel_rfl) ?_
      simp only [hg9, hg8, hg7, b1, wait2, Int.toNat_natCast, splice, coreS, Value.cells, Value.oneCell', Nat.reduceAdd, Nat.reduceSub, Nat.reduceMul, Nat.reduceLeDiff, Int.reduceEq, Nat.reduceEqDiff, drawS, H36Fs48]
      refine ⟨by show (((planS (m.ov.wk i0 (oddL (xs.take i)))).size + 1 : Nat) : Int) ≤ _; omega, ⟨by omega, by omega⟩, sm2, ?_⟩
      try simp only [hvK_eq, coreS, Value.cells, Value.oneCell', Nat.reduceAdd, Nat.reduceSub, Nat.reduceMul, Nat.reduceLeDiff, Int.reduceEq, Nat.reduceEqDiff, drawS, H36Fs48]
      refine ⟨by rw [inK_i64]; omega, roundK_mk (by kernel_rfl) ⟨xx, i + 1, by omega, rfl, by rw [hws]; rfl, by rw [hwk2]; rfl⟩ ?_⟩
      show n - ((i : Int) + 1).toNat < n - (i : Int).toNat
      omega
  · obtain rfl : i = n := by omega
    have h1 : ¬ (i : Int) < i := by omega
    have ht : xs.take i = xs := List.take_of_length_le (by omega)
    rw [ht] at hg7
    simp only [hg9, hg8, hg7, h1, gd_none, decide_false, coreS, Value.cells, Value.oneCell', Nat.reduceAdd, Nat.reduceSub, Nat.reduceMul, Nat.reduceLeDiff, Int.reduceEq, Nat.reduceEqDiff, H36Fs48]
    exact y1
end Go.Proofs.YtafemfjhflfdeaaDoor
end
section
namespace Go.Proofs.YtafemfjhflfdeaaDoor
open Go Go.Proofs Go.Eng Go.Run Tab
set_option maxRecDepth 100000
set_option linter.unusedSimpArgs false
set_option linter.unusedVariables false
set_option linter.defProp false
set_option maxHeartbeats 4000000
set_option linter.defProp false
def H37Fs51 := (And.intro (And.intro (And.intro @agg2 @agg45) (And.intro @fo45_0 @fo45_1)) (And.intro (And.intro @inf2 @inf45) (And.intro @sz2 @sz45)))
theorem tmod_idx {w c : Int} (h0 : 0 ≤ w) (hc : 0 < c) : ∃ i : Nat, (i : Int) < c ∧ w.tmod c = (i : Int) := by
  refine ⟨(w.tmod c).toNat, ?_, ?_⟩
  · rw [Int.tmod_eq_emod_of_nonneg h0]
    have := Int.emod_nonneg w (show c ≠ 0 by omega)
    have := Int.emod_lt_of_pos w hc
    omega
  · rw [Int.tmod_eq_emod_of_nonneg h0]
    have := Int.emod_nonneg w (show c ≠ 0 by omega)
    omega
theorem wk_vals {m : MV} (hc : chk m = 0) {i : Nat} (hi : i < m.casts.length) {bs : List Bool} (hl : bs.length ≤ 100) : ∃ u, u < m.casts.length ∧ m.ov.run (i, i) (m.ov.wk i bs) = some (u, u) ∧ (m.ov.wk i bs).length = bs.length ∧ runE m i (planS (m.ov.wk i bs)) = 0 ∧ runA m i (planS (m.ov.wk i bs)) = (u : Int) ∧ runK m i (planS (m.ov.wk i bs)) = (OV.casts (m.ov.wk i bs) : Int) ∧ (planS (m.ov.wk i bs)).size ≤ 9223372036854775807 := by
  obtain ⟨u, h1, h2, h3⟩ := OV.wk_run (good_of hc).ok bs i hi
  obtain ⟨e1, e2, e3⟩ := run_s hc hi (by omega) h2
  exact ⟨u, h1, h2, h3, e1, e2, e3, by rw [planS_size]; omega⟩
theorem small51 (r : Nat × Nat) (h : Eng.Heap) (h1 : 1 ≤ r.2) (h2 : r.2 ≤ 500) (h3 : r.1 ≤ 500) (h4 : OV.byP r.1 r.2 = r) :
    CallsH Tryd.prog 51 #[ratV r] h (fun v h' => v = .bool true ∧ Ext h h') := by
  (refine CallsH_of_exec Tryd.func51 rfl bod51 ?_; simp only [Tryd.ntmps51, Tryd.results51, coreS, stK_some, splice, Value.cells, Value.oneCell', Nat.reduceAdd, Nat.reduceSub, Nat.reduceMul, Nat.reduceLeDiff, Int.reduceEq, Nat.reduceEqDiff, H37Fs51])
  have hb := push_new (h := h) (o := .cells #[.int .i64 (r.1 : Int), .int .i64 (r.2 : Int)] 45)
  have x0 : Ext h (h.push (.cells #[.int .i64 (r.1 : Int), .int .i64 (r.2 : Int)] 45)) := (Ext.refl h).push _
  have c1 : (1 : Int) ≤ r.2 := by omega
  have c2 : (r.2 : Int) ≤ 500 := by omega
  have c3 : (0 : Int) ≤ r.1 := by omega
  have c4 : (r.1 : Int) ≤ 500 := by omega
  refine WP_tree (by kernel_rfl) sta_ext (.quiet 0 (.quiet 1 (.quiet 2 (.quiet 3 (.quiet 4 (.quiet 5 (.quiet 6 (.quiet 7 (.quiet 8 (.quiet 9 (.quiet 10 (.quiet 11 (.quiet 12 (.quiet 13 (.quiet 14 (.quiet 15 (.quiet 16 (.quiet 17 (.quiet 18 (.quiet 19 (.quiet 20 (.quiet 21 (.quiet 22 (.quiet 23 (.quiet 24 (.quiet 25 (.quiet 26 (.quiet 27 (.fin))))))))))))))))))))))))))))) (by kernel_rfl) rfl (by kernel_rfl) ?_
  simp only [hb, c1, c2, c3, c4, decide_true, splice, coreS, Value.cells, Value.oneCell', Nat.reduceAdd, Nat.reduceSub, Nat.reduceMul, Nat.reduceLeDiff, Int.reduceEq, Nat.reduceEqDiff, drawS, treeS, H37Fs51]
  refine cQ_ext _ (fun h' x' => CallsH.mono (by72 r.1 r.2 h' h1 (by omega) (by omega)) fun v h'' q => ⟨q.1, q.2⟩) ?_
  rw [h4]
  simp only [hb, ratV, decide_true, splice, coreS, Value.cells, Value.oneCell', Nat.reduceAdd, Nat.reduceSub, Nat.reduceMul, Nat.reduceLeDiff, Int.reduceEq, Nat.reduceEqDiff, drawS, treeS, H37Fs51]
  refine eq2Q (u := 45) (b := true) (by kernel_rfl) (xs := [(r.1 : Int), (r.2 : Int)]) (ys := [(r.1 : Int), (r.2 : Int)]) rfl rfl rfl rfl (by simp) ?_
  simp only [hb, decide_true, splice, coreS, Value.cells, Value.oneCell', Nat.reduceAdd, Nat.reduceSub, Nat.reduceMul, Nat.reduceLeDiff, Int.reduceEq, Nat.reduceEqDiff, drawS, treeS, H37Fs51]
  refine execT_fin fun h5 x5 => ?_
  simp only [coreS, Value.cells, Value.oneCell', Nat.reduceAdd, Nat.reduceSub, Nat.reduceMul, Nat.reduceLeDiff, Int.reduceEq, Nat.reduceEqDiff, H37Fs51]
  exact x0.trans x5
theorem neg_nat (k : Nat) : ¬ ((k : Int) < 0) := by omega
theorem nat_nonneg (k : Nat) : (0 : Int) ≤ (k : Int) := by omega
theorem gtT_none {P : Program} {R : Eng.Heap → Eng.Heap → Prop} {s : Tmp} {w : Bool} {op : Op} {ty : TypeId} {all : List Oper} {rest : PT} {k : Cont} {dst : Option Tmp} {e : Env} {d : List Deferred} {h : Eng.Heap} : gtT P R undef s w op ty all rest k dst e d h = execT P R all rest k (putE e dst undef) d h := gtT_undef
end Go.Proofs.YtafemfjhflfdeaaDoor
end
section
set_option linter.unusedVariables false
set_option linter.unusedSimpArgs false
namespace Go.Eng
open Go
def cmpO : BinOp → Int → Int → Option Bool
  | .eql, a, b => some (decide (a = b))
  | .neq, a, b => some (!decide (a = b))
  | .lss, a, b => some (decide (a < b))
  | .leq, a, b => some (decide (a ≤ b))
  | .gtr, a, b => some (decide (b < a))
  | .geq, a, b => some (decide (b ≤ a))
  | _, _, _ => none
def cmpS : BinOp → ByteArray → ByteArray → Option Bool
  | .eql, a, b => some (decide (a = b))
  | .neq, a, b => some (!decide (a = b))
  | _, _, _ => none
def cmpV (op : BinOp) : Value → Value → Option Bool
  | .int k a, .int k' b => if k = k' then cmpO op a b else none
  | .string s, .string t => cmpS op s t
  | _, _ => none
def pureQ (e : Env) : Op → Option Value
  | .move x => some (ev e x)
  | .assign x => some (ev e x)
  | .pick c a b => match ev e c with
    | .bool true => some (ev e a)
    | .bool false => some (ev e b)
    | _ => none
  | .binOp op _ x y _ => (cmpV op (ev e x) (ev e y)).map .bool
  | .unOp .not _ x => match ev e x with
    | .bool b => some (.bool (!b))
    | _ => none
  | .extract x i => match ev e x with
    | .tuple vs => vs[i]?
    | _ => none
  | _ => none
def evalT (all : List Oper) : Nat → PT → Env → Option (PT × Env)
  | 0, t, e => some (t, e)
  | n + 1, .quiet i r, e => match all[i]? with
    | none => none
    | some o => match o.guard with
      | none => (pureQ e o.op).bind fun v => evalT all n r (putE e o.dst v)
      | some (j, want) => match gslot all j with
        | none => none
        | some t => match e.getD t undef with
          | .bool b => if b = want then (pureQ e o.op).bind fun v => evalT all n r (putE e o.dst v) else evalT all n r (putE e o.dst undef)
          | .tuple _ => evalT all n r (putE e o.dst undef)
          | _ => none
  | _, _, _ => none
section pureR
variable {P : Program} {R : Heap → Heap → Prop} {k : Cont} {d : List Deferred} {h : Heap}
theorem cmpV_bin {op : BinOp} {x y : Value} {b : Bool} {K : Value → Heap → Prop} {F : Prop} (H : cmpV op x y = some b) (hK : K (.bool b) h) : binW op x y h K F := by
  unfold cmpV at H
  split at H
  · split at H
    · rename_i hk
      subst hk
      unfold binW
      unfold cmpO at H
      split at H <;> first | (cases H; done) | (cases H; simp only; unfold intW; first | exact ⟨rfl, hK⟩ | exact ⟨trivial, hK⟩)
    · cases H
  · unfold binW
    unfold cmpS at H
    split at H <;> first | (cases H; done) | (cases H; simp only; unfold strW; exact hK)
  · cases H
theorem pureQ_sound {e : Env} {o : Op} {v : Value} {ty : TypeId} {K : Value → Heap → Prop} (H : pureQ e o = some v) (hK : K v h) : opQW P R o ty e h K := by
  unfold pureQ at H
  unfold opQW
  split at H
  · cases H; exact hK
  · cases H; exact hK
  · split at H
    · rename_i hc; cases H; simp only [hc]; exact hK
    · rename_i hc; cases H; simp only [hc]; exact hK
    · cases H
  · obtain ⟨b, hb, rfl⟩ := Option.map_eq_some_iff.1 H
    exact cmpV_bin hb hK
  · split at H
    · rename_i hc; cases H; simp only [hc]; exact hK
    · cases H
  · split at H
    · rename_i hc
      simp only [hc]
      rw [H]
      unfold onV
      exact hK
    · cases H
  · cases H
theorem execT_eval {all : List Oper} {t' : PT} {e' : Env} : ∀ (n : Nat) (t : PT) (e : Env), evalT all n t e = some (t', e') → execT P R all t' k e' d h → execT P R all t k e d h
  | 0, t, e, H, hk => by
    unfold evalT at H
    cases H
    exact hk
  | n + 1, .quiet i r, e, H, hk => by
    unfold evalT at H
    unfold execT
    split at H
    · cases H
    · rename_i o ho
      simp only [ho]
      unfold guardW
      have plain : ((pureQ e o.op).bind fun v => evalT all n r (putE e o.dst v)) = some (t', e') → opQW P R o.op o.type e h (fun v h' => execT P R all r k (putE e o.dst v) d h') := fun H => by
        obtain ⟨v, h1, h2⟩ := Option.bind_eq_some_iff.1 H
        exact pureQ_sound h1 (execT_eval n r _ h2 hk)
      split at H
      · rename_i hg
        simp only [hg]
        exact plain H
      · rename_i j want hg
        simp only [hg]
        split at H
        · cases H
        · rename_i t hs
          simp only [hs]
          split at H
          · rename_i b hb
            have ht : t < e.length := by
              rcases Nat.lt_or_ge t e.length with h | h
              · exact h
              · simp [List.getD, List.getElem?_eq_none h, undef] at hb
            have hset := set_bool_same hb ht
            rw [hb]
            unfold boolW
            have key : ∀ c, b = c → (if c = want then opQW P R o.op o.type (e.set t (.bool c)) h (fun v h' => execT P R all r k (putE (e.set t (.bool c)) o.dst v) d h') else execT P R all r k (putE (e.set t (.bool c)) o.dst undef) d h) := by
              rintro c rfl
              rw [hset]
              by_cases hw : b = want
              · rw [if_pos hw] at H ⊢; exact plain H
              · rw [if_neg hw] at H ⊢; exact execT_eval n r _ H hk
            exact ⟨fun hb => key true hb, fun hb => key false hb⟩
          · rename_i vs hb
            rw [hb]
            unfold boolW
            exact execT_eval n r _ H hk
          · cases H
  | n + 1, .fin, e, H, hk => by cases H
  | n + 1, .pure _ _, e, H, hk => by cases H
  | n + 1, .one _ _, e, H, hk => by cases H
  | n + 1, .keep _ _, e, H, hk => by cases H
  | n + 1, .fork _ _ _ _, e, H, hk => by cases H
  | n + 1, .fork2 _ _ _ _ _ _, e, H, hk => by cases H
  | n + 1, .fork3 _ _ _ _ _ _ _ _ _, e, H, hk => by cases H
def okQ (G : Nat → Bool) (all : List Oper) (i : Nat) (listed : Array Bool) : Bool :=
  (Region.ready .any all.toArray listed).contains i && blkOk all listed i (blk all listed i all.length 0 []) &&
      ((List.range all.length).all fun j => j == i || listed.getD j true || (blk all listed i all.length 0 []).contains j || (G j && (match all[i]?, all[j]? with | some oi, some oj => oi.apart all.toArray oj | _, _ => true)))
theorem okT_eq {G : Nat → Bool} {all : List Oper} {i : Nat} {r : PT} {listed : Array Bool} : okT G all (.quiet i r) listed = (okQ G all i listed && okT G all r (listed.setIfInBounds i true)) := by
  rw [okT]
  unfold okQ
  rfl
theorem okT_quiet {G : Nat → Bool} {all : List Oper} {i : Nat} {r : PT} {listed : Array Bool} (h1 : okQ G all i listed = true)
    (h2 : okT G all r (listed.setIfInBounds i true) = true) : okT G all (.quiet i r) listed = true := by
  rw [okT_eq, h1, h2]
  rfl
theorem execT_skip {all : List Oper} {t : PT} {e : Env} (n : Nat) (t' : PT) (ws : List Nat) (ht : (evalT all n t e).map (·.1) = some t') (hw : mkE e ws (fun i => (((evalT all n t e).map (·.2)).getD []).getD i undef) = ((evalT all n t e).map (·.2)).getD [])
    (H : ∀ g : Nat → Value, (g = fun i => (((evalT all n t e).map (·.2)).getD []).getD i undef) → execT P R all t' k (mkE e ws g) d h) : execT P R all t k e d h := by
  obtain ⟨⟨t1, e1⟩, he, rfl⟩ := Option.map_eq_some_iff.1 ht
  refine execT_eval n t e he ?_
  have := H _ rfl
  rw [hw, he] at this
  exact this
end pureR
end Go.Eng
end
