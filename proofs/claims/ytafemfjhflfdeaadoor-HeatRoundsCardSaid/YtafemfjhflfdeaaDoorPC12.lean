/- Texts joined by pack.py: lemmas for YtafemfjhflfdeaaDoorSures. No condition. -/
import Derived.Test.YtafemfjhflfdeaaDoorPC11
import Derived.ProofKit
import Derived.OpenShut
import Derived.Below
import Derived.WideKeyArgs
import Derived.ChangeSlices
set_option linter.unusedSimpArgs false
set_option linter.unusedVariables false
set_option linter.defProp false
section
namespace Go.Proofs.YtafemfjhflfdeaaDoor
open Go Go.Proofs Go.Eng Go.Run Tab
set_option maxRecDepth 100000
set_option linter.unusedSimpArgs false
set_option linter.unusedVariables false
set_option linter.defProp false
set_option maxHeartbeats 8000000
set_option linter.defProp false
def H32Fs19 := (And.intro (And.intro (And.intro (And.intro @agg24 @agg45) (And.intro @agg54 @by3)) (And.intro (And.intro @inf24 @inf3) (And.intro @inf45 @inf54))) (And.intro (And.intro (And.intro @sz24 @sz3) (And.intro @sz45 @sz54)) (And.intro (And.intro @zero24 @zero3) (And.intro @zero45 (And.intro @zero54 @Tryd.underlying22)))))
theorem lab_of {m : MV} {v : Value} {h : Eng.Heap} (hc : chk m = 0) (H : LabV m v h) : ∃ a c, v = .tuple #[.slice a m.casts.length c, .int .i64 0] ∧ IntsV h a m.casts.length (moL m m.casts.length) := by
  rcases H with ⟨_, H⟩ | ⟨H, _⟩
  · exact H
  · exact absurd hc H
theorem rov_zero {m : MV} {x : Int} {v : Value} (h0 : roE m x = 0) (H : RoV m x v) : ∃ (p q : List Bool) (u : Nat), v = .tuple #[.string (planS p), .string (planS q), .int .i64 0] ∧ m.ov.run (x.toNat, x.toNat) p = some (u, u) ∧ m.ov.run (u, u) q = some (u, u) ∧ 1 ≤ OV.casts q ∧ p.length + q.length ≤ 300 := by
  rcases H with ⟨h, _⟩ | ⟨_, H⟩
  · exact absurd h0 h
  · exact H
theorem rov_ne {m : MV} {x : Int} {v : Value} (h0 : roE m x ≠ 0) (H : RoV m x v) : v = .tuple #[.string ⟨#[]⟩, .string ⟨#[]⟩, .int .i64 (roE m x)] := by
  rcases H with ⟨_, H⟩ | ⟨h, _⟩
  · exact H
  · exact absurd h h0
theorem run_lt {o : OV} (ok : o.ok) {i u : Nat} {p : List Bool} (hi : i < o.n) (h : o.run (i, i) p = some (u, u)) : u < o.n := (OV.in_run ok (s := (i, i)) ⟨hi, hi⟩ h).1
theorem eq2Q {er : Env} {h : Eng.Heap} {ty yt u : TypeId} {x y : Operand} (hfl : ((Pt.pr.ty u).map fun t => t.fl) = some (List.replicate 2 .i)) {xs ys : List Int} (h2 : xs.length = 2) (h2' : ys.length = 2) {b : Bool} {K : Value → Eng.Heap → Prop} (hx : ev er x = .agg (Eng.ints xs).toArray) (hy : ev er y = .agg (Eng.ints ys).toArray) (hb : decide (xs = ys) = b) (H : K (.bool b) h) : opQS Tryd.prog Ext (.binOp .eql u x y yt) ty er h K := by
  unfold opQS
  obtain ⟨ti, hti, hfl⟩ := Option.map_eq_some_iff.1 hfl
  refine ⟨.bool b, fun h' hr => ?_, H⟩
  exact eqIntsW Pt.ok hti (xs := xs) (ys := ys) (by omega) (by omega) (by rw [h2]; exact hfl) hx hy ⟨by rw [hb], Ext.refl _⟩
theorem works19 (h : Eng.Heap) : CallsH Tryd.prog 19 #[] h (fun v h' => v = .bool true ∧ Ext h h') := by
  (refine CallsH_of_exec Tryd.func19 rfl bod19 ?_; simp only [Tryd.ntmps19, Tryd.results19, coreS, stK_some, splice, Value.cells, Value.oneCell', Nat.reduceAdd, Nat.reduceSub, Nat.reduceMul, Nat.reduceLeDiff, Int.reduceEq, Nat.reduceEqDiff, H32Fs19])
  refine CallsH.mono (good52 _) ?_
  rintro v h1 ⟨⟨g1, rfl, ok1⟩, x1⟩
  simp only [coreS, Value.cells, Value.oneCell', Nat.reduceAdd, Nat.reduceSub, Nat.reduceMul, Nat.reduceLeDiff, Int.reduceEq, Nat.reduceEqDiff, H32Fs19]
  refine CallsH.mono (stuck53 _) ?_
  rintro v h2 ⟨⟨g2, rfl, ok2⟩, x2⟩
  simp only [splice, coreS, Value.cells, Value.oneCell', Nat.reduceAdd, Nat.reduceSub, Nat.reduceMul, Nat.reduceLeDiff, Int.reduceEq, Nat.reduceEqDiff, H32Fs19]
  obtain ⟨c1, hc1⟩ : ∃ c, c = h2.size := ⟨_, rfl⟩
  have q0 := pn0 (h := h2) (o := .cells #[.slice none 0 0, .slice none 0 0, .int .i64 0, .int .i64 0] 24) (o' := .cells #[.slice none 0 0, .slice none 0 0, .int .i64 0, .int .i64 0] 24)
  have q1 := pn1 (h := h2) (o := .cells #[.slice none 0 0, .slice none 0 0, .int .i64 0, .int .i64 0] 24) (o' := .cells #[.slice none 0 0, .slice none 0 0, .int .i64 0, .int .i64 0] 24)
  have y0 : Ext h2 ((h2.push (.cells #[.slice none 0 0, .slice none 0 0, .int .i64 0, .int .i64 0] 24)).push (.cells #[.slice none 0 0, .slice none 0 0, .int .i64 0, .int .i64 0] 24)) := ((Ext.refl h2).push _).push _
  refine stK_abs q0 (by simp) fun h3 g3 u3 => ?_
  simp only [splice] at g3
  have k3 := u3.get q1 (by omega)
  simp only [k3, splice, coreS, Value.cells, Value.oneCell', Nat.reduceAdd, Nat.reduceSub, Nat.reduceMul, Nat.reduceLeDiff, Int.reduceEq, Nat.reduceEqDiff, H32Fs19]
  refine stK_abs k3 (by simp) fun h4 g4 u4 => ?_
  simp only [splice] at g4
  have k1 := u4.get g3 (by omega)
  have k2 := g4
  have y2 := u4.ext (u3.ext y0 (by omega)) (by omega)
  have y := (x1.trans x2).trans y2
  replace ok1 := (ok1.ext x2).ext y2
  replace ok2 := ok2.ext y2
  have e1 : (goodM g1).val = .agg #[.slice (goodM g1).a (goodM g1).casts.length (goodM g1).ca, .slice (goodM g1).b (goodM g1).waits.length (goodM g1).cb, .int .i64 (goodM g1).lo, .int .i64 (goodM g1).hi] := rfl
  have e2 : (stuckM g2).val = .agg #[.slice (stuckM g2).a (stuckM g2).casts.length (stuckM g2).ca, .slice (stuckM g2).b (stuckM g2).waits.length (stuckM g2).cb, .int .i64 (stuckM g2).lo, .int .i64 (stuckM g2).hi] := rfl
  clear q0 q1 y0 g3 g4 k3 u3 u4 x1 x2 y2
  rw [← hc1] at k1 k2
  simp only [← hc1]
  clear hc1
  simp only [k1, splice, coreS, Value.cells, Value.oneCell', Nat.reduceAdd, Nat.reduceSub, Nat.reduceMul, Nat.reduceLeDiff, Int.reduceEq, Nat.reduceEqDiff, H32Fs19]
  refine CallsH.mono (run20 (goodM g1) 3 ⟨#[99, 99, 119]⟩ _ ok1 (by decide)) ?_
  rintro v h5 ⟨rfl, x5⟩
  replace k1 := x5.get k1
  replace k2 := x5.get k2
  replace ok1 := ok1.ext x5
  replace ok2 := ok2.ext x5
  replace y := y.trans x5
  simp only [k1, k2, (v1 g1).1, (v1 g1).2.1, (v1 g1).2.2, splice, coreS, Value.cells, Value.oneCell', Nat.reduceAdd, Nat.reduceSub, Nat.reduceMul, Nat.reduceLeDiff, Int.reduceEq, Nat.reduceEqDiff, H32Fs19]
  refine CallsH.mono (run20 (goodM g1) 3 ⟨#[99, 99, 99]⟩ _ ok1 (by decide)) ?_
  rintro v h6 ⟨rfl, x6⟩
  replace k1 := x6.get k1
  replace k2 := x6.get k2
  replace ok1 := ok1.ext x6
  replace ok2 := ok2.ext x6
  replace y := y.trans x6
  simp only [k1, k2, v2 g1, splice, coreS, Value.cells, Value.oneCell', Nat.reduceAdd, Nat.reduceSub, Nat.reduceMul, Nat.reduceLeDiff, Int.reduceEq, Nat.reduceEqDiff, H32Fs19]
  refine CallsH.mono (run20 (goodM g1) 3 ⟨#[99, 120]⟩ _ ok1 (by decide)) ?_
  rintro v h7 ⟨rfl, x7⟩
  replace k1 := x7.get k1
  replace k2 := x7.get k2
  replace ok1 := ok1.ext x7
  replace ok2 := ok2.ext x7
  replace y := y.trans x7
  simp only [k1, k2, v3 g1, splice, coreS, Value.cells, Value.oneCell', Nat.reduceAdd, Nat.reduceSub, Nat.reduceMul, Nat.reduceLeDiff, Int.reduceEq, Nat.reduceEqDiff, H32Fs19]
  refine CallsH.mono (run20 (goodM g1) 8 ⟨#[99]⟩ _ ok1 (by decide)) ?_
  rintro v h8 ⟨rfl, x8⟩
  replace k1 := x8.get k1
  replace k2 := x8.get k2
  replace ok1 := ok1.ext x8
  replace ok2 := ok2.ext x8
  replace y := y.trans x8
  simp only [k1, k2, v4 g1, splice, coreS, Value.cells, Value.oneCell', Nat.reduceAdd, Nat.reduceSub, Nat.reduceMul, Nat.reduceLeDiff, Int.reduceEq, Nat.reduceEqDiff, H32Fs19]
  refine CallsH.mono (fewest24 (goodM g1) 3 4 _ ok1) ?_
  rintro v h9 ⟨rfl, x9⟩
  replace k1 := x9.get k1
  replace k2 := x9.get k2
  replace ok1 := ok1.ext x9
  replace ok2 := ok2.ext x9
  replace y := y.trans x9
  simp only [k1, k2, (v5 g1).1, (v5 g1).2, splice, coreS, Value.cells, Value.oneCell', Nat.reduceAdd, Nat.reduceSub, Nat.reduceMul, Nat.reduceLeDiff, Int.reduceEq, Nat.reduceEqDiff, H32Fs19]
  refine CallsH.mono (fewest24 (goodM g1) 1 1 _ ok1) ?_
  rintro v h10 ⟨rfl, x10⟩
  replace k1 := x10.get k1
  replace k2 := x10.get k2
  replace ok1 := ok1.ext x10
  replace ok2 := ok2.ext x10
  replace y := y.trans x10
  simp only [k1, k2, v6 g1, splice, coreS, Value.cells, Value.oneCell', Nat.reduceAdd, Nat.reduceSub, Nat.reduceMul, Nat.reduceLeDiff, Int.reduceEq, Nat.reduceEqDiff, H32Fs19]
  refine CallsH.mono (plan26 (goodM g1) 3 4 _ ok1) ?_
  rintro v h11 ⟨rfl, x11⟩
  replace k1 := x11.get k1
  replace k2 := x11.get k2
  replace ok1 := ok1.ext x11
  replace ok2 := ok2.ext x11
  replace y := y.trans x11
  simp only [k1, k2, v7 g1, (v5 g1).2, splice, coreS, Value.cells, Value.oneCell', Nat.reduceAdd, Nat.reduceSub, Nat.reduceMul, Nat.reduceLeDiff, Int.reduceEq, Nat.reduceEqDiff, H32Fs19]
  refine CallsH.mono (most28 (goodM g1) 3 _ ok1) ?_
  rintro v h12 ⟨rfl, x12⟩
  replace k1 := x12.get k1
  replace k2 := x12.get k2
  replace ok1 := ok1.ext x12
  replace ok2 := ok2.ext x12
  replace y := y.trans x12
  simp only [k1, k2, v8 g1, splice, coreS, Value.cells, Value.oneCell', Nat.reduceAdd, Nat.reduceSub, Nat.reduceMul, Nat.reduceLeDiff, Int.reduceEq, Nat.reduceEqDiff, H32Fs19]
  refine CallsH.mono (most28 (stuckM g2) 4 _ ok2) ?_
  rintro v h13 ⟨rfl, x13⟩
  replace k1 := x13.get k1
  replace k2 := x13.get k2
  replace ok1 := ok1.ext x13
  replace ok2 := ok2.ext x13
  replace y := y.trans x13
  simp only [k1, k2, (v9 g2).1, (v9 g2).2, splice, coreS, Value.cells, Value.oneCell', Nat.reduceAdd, Nat.reduceSub, Nat.reduceMul, Nat.reduceLeDiff, Int.reduceEq, Nat.reduceEqDiff, H32Fs19]
  refine CallsH.mono (labels30 (goodM g1) _ ok1) ?_
  rintro v h14 ⟨hL, x14⟩
  replace k1 := x14.get k1
  replace k2 := x14.get k2
  replace ok1 := ok1.ext x14
  replace ok2 := ok2.ext x14
  replace y := y.trans x14
  obtain ⟨a1, d1, rfl, I1⟩ := lab_of (good_chk g1) hL
  simp only [k1, k2, splice, coreS, Value.cells, Value.oneCell', Nat.reduceAdd, Nat.reduceSub, Nat.reduceMul, Nat.reduceLeDiff, Int.reduceEq, Nat.reduceEqDiff, H32Fs19]
  rw [show moL (goodM g1) (goodM g1).casts.length = [0, 0, -1, -1, -1, -1, -1, -1] from moL_good g1] at I1
  refine CallsH.mono (labels30 (stuckM g2) _ ok2) ?_
  rintro v h15 ⟨hL, x15⟩
  replace k1 := x15.get k1
  replace k2 := x15.get k2
  replace ok1 := ok1.ext x15
  replace ok2 := ok2.ext x15
  replace y := y.trans x15
  replace I1 := I1.ext x15
  obtain ⟨a2, d2, rfl, I2⟩ := lab_of (stuck_chk g2) hL
  simp only [k1, k2, splice, coreS, Value.cells, Value.oneCell', Nat.reduceAdd, Nat.reduceSub, Nat.reduceMul, Nat.reduceLeDiff, Int.reduceEq, Nat.reduceEqDiff, H32Fs19]
  rw [show moL (stuckM g2) (stuckM g2).casts.length = [0, 0, 0, 0, 1, 1, 0, 0] from moL_stuck g2] at I2
  refine WP_cut [29, 30, 116, 117, 118, 119, 120, 121, 122, 123] (fun g h' => g 29 = .int .i64 0 ∧ g 30 = .int .i64 14 ∧ Ext h15 h') ?_ ?_
  · refine WP_tree (by kernel_rfl) sta_ext (.quiet 0 (.quiet 4 (.fork 1 5 (.quiet 2 (.quiet 3 (.keep 5 (.quiet 6 (.quiet 7 (.quiet 8 (.quiet 9 (.fin)))))))) (.keep 1 (.quiet 2 (.quiet 3 (.quiet 6 (.quiet 7 (.quiet 8 (.quiet 9 (.fin))))))))))) (by kernel_rfl) rfl (by kernel_rfl) ?_
    simp only [k1, k2, splice, coreS, Value.cells, Value.oneCell', Nat.reduceAdd, Nat.reduceSub, Nat.reduceMul, Nat.reduceLeDiff, Int.reduceEq, Nat.reduceEqDiff, drawS, treeS, H32Fs19]
    refine execT_fork fun hA xA => ⟨?_, ?_⟩
    · simp only [splice, coreS, Value.cells, Value.oneCell', Nat.reduceAdd, Nat.reduceSub, Nat.reduceMul, Nat.reduceLeDiff, Int.reduceEq, Nat.reduceEqDiff, drawS, treeS, H32Fs19]
      refine ⟨(Ext.refl hA).push _, ?_⟩
      refine cQ_ext _ (fun h' x' => CallsH.mono (of54 _ h') fun v h'' q => ⟨q.1, by rw [q.2]; exact Ext.refl _⟩) ?_
      simp only [k1, k2, coreS, Value.cells, Value.oneCell', Nat.reduceAdd, Nat.reduceSub, Nat.reduceMul, Nat.reduceLeDiff, Int.reduceEq, Nat.reduceEqDiff, drawS, treeS, H32Fs19]
      refine cQ_ext _ (fun h' x' => CallsH.mono (ckl33 (stuckM g2) (some ⟨hA.size, 0, none⟩) 8 8 [0, 0, 0, 0, 1, 1, 0, 0] h' (ok2.ext ((xA.push _).trans x')) (IntsV.block (xs := [0, 0, 0, 0, 1, 1, 0, 0]) (x'.get push_new)) (by omega)) fun v h'' q => ⟨q.1, q.2⟩) ?_
      simp only [v12 g2, coreS, Value.cells, Value.oneCell', Nat.reduceAdd, Nat.reduceSub, Nat.reduceMul, Nat.reduceLeDiff, Int.reduceEq, Nat.reduceEqDiff, drawS, treeS, H32Fs19]
      refine execT_keep fun hB xB => ?_
      simp only [splice, coreS, Value.cells, Value.oneCell', Nat.reduceAdd, Nat.reduceSub, Nat.reduceMul, Nat.reduceLeDiff, Int.reduceEq, Nat.reduceEqDiff, drawS, treeS, H32Fs19]
      refine ⟨(Ext.refl hB).push _, ?_⟩
      refine cQ_ext _ (fun h' x' => CallsH.mono (of54 _ h') fun v h'' q => ⟨q.1, by rw [q.2]; exact Ext.refl _⟩) ?_
      simp only [k1, k2, coreS, Value.cells, Value.oneCell', Nat.reduceAdd, Nat.reduceSub, Nat.reduceMul, Nat.reduceLeDiff, Int.reduceEq, Nat.reduceEqDiff, drawS, treeS, H32Fs19]
      refine cQ_ext _ (fun h' x' => CallsH.mono (ckl33 (stuckM g2) (some ⟨hB.size, 0, none⟩) 8 8 [0, 0, 0, 0, 2, 1, 1, 0] h' (ok2.ext ((((xA.push _).trans xB).push _).trans x')) (IntsV.block (xs := [0, 0, 0, 0, 2, 1, 1, 0]) (x'.get push_new)) (by omega)) fun v h'' q => ⟨q.1, q.2⟩) ?_
      simp only [v13 g2, coreS, Value.cells, Value.oneCell', Nat.reduceAdd, Nat.reduceSub, Nat.reduceMul, Nat.reduceLeDiff, Int.reduceEq, Nat.reduceEqDiff, drawS, treeS, H32Fs19]
      refine execT_fin fun hC xC => ?_
      simp only [coreS, Value.cells, Value.oneCell', Nat.reduceAdd, Nat.reduceSub, Nat.reduceMul, Nat.reduceLeDiff, Int.reduceEq, Nat.reduceEqDiff, H32Fs19]
      exact midK_mk (by kernel_rfl) ⟨rfl, rfl, (((xA.push _).trans xB).push _).trans xC⟩
    · simp only [splice, coreS, Value.cells, Value.oneCell', Nat.reduceAdd, Nat.reduceSub, Nat.reduceMul, Nat.reduceLeDiff, Int.reduceEq, Nat.reduceEqDiff, drawS, treeS, H32Fs19]
      refine ⟨(Ext.refl hA).push _, ?_⟩
      refine execT_keep fun hB xB => ?_
      simp only [splice, coreS, Value.cells, Value.oneCell', Nat.reduceAdd, Nat.reduceSub, Nat.reduceMul, Nat.reduceLeDiff, Int.reduceEq, Nat.reduceEqDiff, drawS, treeS, H32Fs19]
      refine ⟨(Ext.refl hB).push _, ?_⟩
      refine cQ_ext _ (fun h' x' => CallsH.mono (of54 _ h') fun v h'' q => ⟨q.1, by rw [q.2]; exact Ext.refl _⟩) ?_
      simp only [k1, k2, coreS, Value.cells, Value.oneCell', Nat.reduceAdd, Nat.reduceSub, Nat.reduceMul, Nat.reduceLeDiff, Int.reduceEq, Nat.reduceEqDiff, drawS, treeS, H32Fs19]
      refine cQ_ext _ (fun h' x' => CallsH.mono (ckl33 (stuckM g2) (some ⟨hB.size, 0, none⟩) 8 8 [0, 0, 0, 0, 1, 1, 0, 0] h' (ok2.ext ((((xA.push _).trans xB).push _).trans x')) (IntsV.block (xs := [0, 0, 0, 0, 1, 1, 0, 0]) (x'.get push_new)) (by omega)) fun v h'' q => ⟨q.1, q.2⟩) ?_
      simp only [v12 g2, coreS, Value.cells, Value.oneCell', Nat.reduceAdd, Nat.reduceSub, Nat.reduceMul, Nat.reduceLeDiff, Int.reduceEq, Nat.reduceEqDiff, drawS, treeS, H32Fs19]
      refine cQ_ext _ (fun h' x' => CallsH.mono (of54 _ h') fun v h'' q => ⟨q.1, by rw [q.2]; exact Ext.refl _⟩) ?_
      simp only [k1, k2, coreS, Value.cells, Value.oneCell', Nat.reduceAdd, Nat.reduceSub, Nat.reduceMul, Nat.reduceLeDiff, Int.reduceEq, Nat.reduceEqDiff, drawS, treeS, H32Fs19]
      refine cQ_ext _ (fun h' x' => CallsH.mono (ckl33 (stuckM g2) (some ⟨hA.size, 0, none⟩) 8 8 [0, 0, 0, 0, 2, 1, 1, 0] h' (ok2.ext ((((xA.push _).trans xB).push _).trans x')) (IntsV.block (xs := [0, 0, 0, 0, 2, 1, 1, 0]) (x'.get (push_old (xB.get push_new)))) (by omega)) fun v h'' q => ⟨q.1, q.2⟩) ?_
      simp only [v13 g2, coreS, Value.cells, Value.oneCell', Nat.reduceAdd, Nat.reduceSub, Nat.reduceMul, Nat.reduceLeDiff, Int.reduceEq, Nat.reduceEqDiff, drawS, treeS, H32Fs19]
      refine execT_fin fun hC xC => ?_
      simp only [coreS, Value.cells, Value.oneCell', Nat.reduceAdd, Nat.reduceSub, Nat.reduceMul, Nat.reduceLeDiff, Int.reduceEq, Nat.reduceEqDiff, H32Fs19]
      exact midK_mk (by kernel_rfl) ⟨rfl, rfl, (((xA.push _).trans xB).push _).trans xC⟩
  rintro f1 h16 ⟨f1a, f1b, x16⟩
  replace k1 := x16.get k1
  replace k2 := x16.get k2
  replace ok1 := ok1.ext x16
  replace ok2 := ok2.ext x16
  replace y := y.trans x16
  replace I1 := I1.ext x16
  replace I2 := I2.ext x16
  simp only [k1, k2, f1a, f1b, splice, coreS, Value.cells, Value.oneCell', Nat.reduceAdd, Nat.reduceSub, Nat.reduceMul, Nat.reduceLeDiff, Int.reduceEq, Nat.reduceEqDiff, H32Fs19]
  refine CallsH.mono (ckr35 (goodM g1) 3 ⟨#[99, 99, 119]⟩ ⟨#[99, 119]⟩ _ ok1 (by decide) (by decide)) ?_
  rintro v h17 ⟨rfl, x17⟩
  replace k1 := x17.get k1
  replace k2 := x17.get k2
  replace ok1 := ok1.ext x17
  replace ok2 := ok2.ext x17
  replace y := y.trans x17
  replace I1 := I1.ext x17
  replace I2 := I2.ext x17
  simp only [k1, k2, (v14 g1).1, (v14 g1).2, ratV, splice, coreS, Value.cells, Value.oneCell', Nat.reduceAdd, Nat.reduceSub, Nat.reduceMul, Nat.reduceLeDiff, Int.reduceEq, Nat.reduceEqDiff, H32Fs19]
  refine stK_abs push_new (by simp) fun h18 b3 u18 => ?_
  simp only [splice] at b3
  have x18 : Ext h17 h18 := u18.ext ((Ext.refl h17).push _) (Nat.le_refl _)
  replace k1 := x18.get k1
  replace k2 := x18.get k2
  replace ok1 := ok1.ext x18
  replace ok2 := ok2.ext x18
  replace y := y.trans x18
  replace I1 := I1.ext x18
  replace I2 := I2.ext x18
  simp only [k1, k2, b3, splice, coreS, Value.cells, Value.oneCell', Nat.reduceAdd, Nat.reduceSub, Nat.reduceMul, Nat.reduceLeDiff, Int.reduceEq, Nat.reduceEqDiff, H32Fs19]
  refine CallsH.mono (ckr35 (goodM g1) 3 ⟨#[99]⟩ ⟨#[99, 119]⟩ _ ok1 (by decide) (by decide)) ?_
  rintro v h19 ⟨rfl, x19⟩
  replace k1 := x19.get k1
  replace k2 := x19.get k2
  replace ok1 := ok1.ext x19
  replace ok2 := ok2.ext x19
  replace y := y.trans x19
  replace I1 := I1.ext x19
  replace I2 := I2.ext x19
  replace b3 := x19.get b3
  simp only [k1, k2, b3, v15 g1, ratV, splice, coreS, Value.cells, Value.oneCell', Nat.reduceAdd, Nat.reduceSub, Nat.reduceMul, Nat.reduceLeDiff, Int.reduceEq, Nat.reduceEqDiff, H32Fs19]
  refine stK_abs push_new (by simp) fun h20 b4 u20 => ?_
  simp only [splice] at b4
  have x20 : Ext h19 h20 := u20.ext ((Ext.refl h19).push _) (Nat.le_refl _)
  replace k1 := x20.get k1
  replace k2 := x20.get k2
  replace ok1 := ok1.ext x20
  replace ok2 := ok2.ext x20
  replace y := y.trans x20
  replace I1 := I1.ext x20
  replace I2 := I2.ext x20
  replace b3 := x20.get b3
  simp only [k1, k2, b3, b4, splice, coreS, Value.cells, Value.oneCell', Nat.reduceAdd, Nat.reduceSub, Nat.reduceMul, Nat.reduceLeDiff, Int.reduceEq, Nat.reduceEqDiff, H32Fs19]
  refine CallsH.mono (round39 (goodM g1) 3 _ ok1) ?_
  rintro v h21 ⟨hR, x21⟩
  replace k1 := x21.get k1
  replace k2 := x21.get k2
  replace ok1 := ok1.ext x21
  replace ok2 := ok2.ext x21
  replace y := y.trans x21
  replace I1 := I1.ext x21
  replace I2 := I2.ext x21
  replace b3 := x21.get b3
  replace b4 := x21.get b4
  obtain ⟨p, q, u, rfl, hp1, hp2, hp3, hp4⟩ := rov_zero (v16 g1) hR
  simp only [k1, k2, b3, b4, splice, coreS, Value.cells, Value.oneCell', Nat.reduceAdd, Nat.reduceSub, Nat.reduceMul, Nat.reduceLeDiff, Int.reduceEq, Nat.reduceEqDiff, H32Fs19]
  refine CallsH.mono (round39 (stuckM g2) 4 _ ok2) ?_
  rintro v h22 ⟨hR2, x22⟩
  replace k1 := x22.get k1
  replace k2 := x22.get k2
  replace ok1 := ok1.ext x22
  replace ok2 := ok2.ext x22
  replace y := y.trans x22
  replace I1 := I1.ext x22
  replace I2 := I2.ext x22
  replace b3 := x22.get b3
  replace b4 := x22.get b4
  obtain rfl := rov_ne (by rw [v17 g2]; decide) hR2
  simp only [k1, k2, b3, b4, v17 g2, splice, coreS, Value.cells, Value.oneCell', Nat.reduceAdd, Nat.reduceSub, Nat.reduceMul, Nat.reduceLeDiff, Int.reduceEq, Nat.reduceEqDiff, H32Fs19]
  refine CallsH.mono (rate37 (goodM g1) 3 _ ok1) ?_
  rintro v h23 ⟨rfl, x23⟩
  replace k1 := x23.get k1
  replace k2 := x23.get k2
  replace ok1 := ok1.ext x23
  replace ok2 := ok2.ext x23
  replace y := y.trans x23
  replace I1 := I1.ext x23
  replace I2 := I2.ext x23
  replace b3 := x23.get b3
  replace b4 := x23.get b4
  simp only [k1, k2, b3, b4, v18 g1, v16 g1, ratV, splice, coreS, Value.cells, Value.oneCell', Nat.reduceAdd, Nat.reduceSub, Nat.reduceMul, Nat.reduceLeDiff, Int.reduceEq, Nat.reduceEqDiff, H32Fs19]
  refine stK_abs push_new (by simp) fun h24 b5 u24 => ?_
  simp only [splice] at b5
  have x24 : Ext h23 h24 := u24.ext ((Ext.refl h23).push _) (Nat.le_refl _)
  replace k1 := x24.get k1
  replace k2 := x24.get k2
  replace ok1 := ok1.ext x24
  replace ok2 := ok2.ext x24
  replace y := y.trans x24
  replace I1 := I1.ext x24
  replace I2 := I2.ext x24
  replace b3 := x24.get b3
  replace b4 := x24.get b4
  simp only [k1, k2, b3, b4, b5, splice, coreS, Value.cells, Value.oneCell', Nat.reduceAdd, Nat.reduceSub, Nat.reduceMul, Nat.reduceLeDiff, Int.reduceEq, Nat.reduceEqDiff, H32Fs19]
  refine WP_cut [43, 44, 151, 152, 153, 154, 155, 156] (fun g h' => (∃ b, g 43 = .pointer (some ⟨b, 0, none⟩) ∧ h'[b]? = some (.cells #[.int .i64 (6), .int .i64 (7)] 54)) ∧ g 44 = .int .i64 0 ∧ Ext h24 h') ?_ ?_
  · refine WP_tree (by kernel_rfl) sta_ext (.quiet 0 (.quiet 1 (.quiet 2 (.quiet 3 (.quiet 4 (.pure 5 (.keep 6 (.one 7 (.quiet 8 (.fin)))))))))) (by kernel_rfl) rfl (by kernel_rfl) ?_
    simp only [k1, k2, b3, b4, b5, splice, coreS, Value.cells, Value.oneCell', Nat.reduceAdd, Nat.reduceSub, Nat.reduceMul, Nat.reduceLeDiff, Int.reduceEq, Nat.reduceEqDiff, drawS, treeS, H32Fs19]
    refine cQ_ext _ (fun h' x' => CallsH.mono (to49 2 3 h') fun v h'' q => ⟨q.1, q.2⟩) ?_
    simp only [rgV, k1, k2, b3, b4, b5, splice, coreS, Value.cells, Value.oneCell', Nat.reduceAdd, Nat.reduceSub, Nat.reduceMul, Nat.reduceLeDiff, Int.reduceEq, Nat.reduceEqDiff, drawS, treeS, H32Fs19]
    refine cQ_ext _ (fun h' x' => CallsH.mono (runAll41 (goodM g1) 2 3 ⟨#[99, 99]⟩ h' (ok1.ext x') (by decide)) fun v h'' q => ⟨q.1, q.2⟩) ?_
    simp only [(v19 g1).1, (v19 g1).2, spV, splice, coreS, Value.cells, Value.oneCell', Nat.reduceAdd, Nat.reduceSub, Nat.reduceMul, Nat.reduceLeDiff, Int.reduceEq, Nat.reduceEqDiff, drawS, treeS, H32Fs19]
    refine execT_keep fun hA xA => ?_
    simp only [splice, coreS, Value.cells, Value.oneCell', Nat.reduceAdd, Nat.reduceSub, Nat.reduceMul, Nat.reduceLeDiff, Int.reduceEq, Nat.reduceEqDiff, drawS, treeS, H32Fs19]
    refine ⟨(Ext.refl hA).push _, ?_⟩
    refine execT_one fun hB xB => ?_
    have tB := xB.get (push_new (h := hA))
    simp only [tB, splice, coreS, Value.cells, Value.oneCell', Nat.reduceAdd, Nat.reduceSub, Nat.reduceMul, Nat.reduceLeDiff, Int.reduceEq, Nat.reduceEqDiff, drawS, treeS, H32Fs19]
    refine stK_abs tB (by simp) fun hC gC uC => ?_
    simp only [splice] at gC
    have xx : Ext hA hC := uC.ext xB.of_push (Nat.le_refl _)
    try simp only [coreS, Value.cells, Value.oneCell', Nat.reduceAdd, Nat.reduceSub, Nat.reduceMul, Nat.reduceLeDiff, Int.reduceEq, Nat.reduceEqDiff, drawS, treeS, H32Fs19]
    refine execT_fin fun hD xD => ?_
    simp only [coreS, Value.cells, Value.oneCell', Nat.reduceAdd, Nat.reduceSub, Nat.reduceMul, Nat.reduceLeDiff, Int.reduceEq, Nat.reduceEqDiff, H32Fs19]
    exact midK_mk (by kernel_rfl) ⟨⟨hA.size, rfl, xD.get gC⟩, rfl, (xA.trans xx).trans xD⟩
  rintro f19 h25 ⟨⟨b19_, f19a, b19⟩, f19b, x25⟩
  replace k1 := x25.get k1
  replace k2 := x25.get k2
  replace ok1 := ok1.ext x25
  replace ok2 := ok2.ext x25
  replace y := y.trans x25
  replace I1 := I1.ext x25
  replace I2 := I2.ext x25
  replace b3 := x25.get b3
  replace b4 := x25.get b4
  replace b5 := x25.get b5
  simp only [k1, k2, b3, b4, b5, b19, f19a, f19b, splice, coreS, Value.cells, Value.oneCell', Nat.reduceAdd, Nat.reduceSub, Nat.reduceMul, Nat.reduceLeDiff, Int.reduceEq, Nat.reduceEqDiff, H32Fs19]
  refine WP_cut [45, 46, 157, 158, 159, 160, 161, 162] (fun g h' => (∃ b, g 45 = .pointer (some ⟨b, 0, none⟩) ∧ h'[b]? = some (.cells #[.int .i64 (((raV (goodM g1) 3 4 ⟨#[99, 99]⟩).1 : Nat) : Int), .int .i64 (((raV (goodM g1) 3 4 ⟨#[99, 99]⟩).2 : Nat) : Int)] 54)) ∧ g 46 = .int .i64 22 ∧ Ext h25 h') ?_ ?_
  · refine WP_tree (by kernel_rfl) sta_ext (.quiet 0 (.quiet 1 (.quiet 2 (.quiet 3 (.quiet 4 (.pure 5 (.keep 6 (.one 7 (.quiet 8 (.fin)))))))))) (by kernel_rfl) rfl (by kernel_rfl) ?_
    simp only [k1, k2, b3, b4, b5, b19, splice, coreS, Value.cells, Value.oneCell', Nat.reduceAdd, Nat.reduceSub, Nat.reduceMul, Nat.reduceLeDiff, Int.reduceEq, Nat.reduceEqDiff, drawS, treeS, H32Fs19]
    refine cQ_ext _ (fun h' x' => CallsH.mono (to49 3 4 h') fun v h'' q => ⟨q.1, q.2⟩) ?_
    simp only [rgV, k1, k2, b3, b4, b5, b19, splice, coreS, Value.cells, Value.oneCell', Nat.reduceAdd, Nat.reduceSub, Nat.reduceMul, Nat.reduceLeDiff, Int.reduceEq, Nat.reduceEqDiff, drawS, treeS, H32Fs19]
    refine cQ_ext _ (fun h' x' => CallsH.mono (runAll41 (goodM g1) 3 4 ⟨#[99, 99]⟩ h' (ok1.ext x') (by decide)) fun v h'' q => ⟨q.1, q.2⟩) ?_
    simp only [v20 g1, spV, splice, coreS, Value.cells, Value.oneCell', Nat.reduceAdd, Nat.reduceSub, Nat.reduceMul, Nat.reduceLeDiff, Int.reduceEq, Nat.reduceEqDiff, drawS, treeS, H32Fs19]
    refine execT_keep fun hA xA => ?_
    simp only [splice, coreS, Value.cells, Value.oneCell', Nat.reduceAdd, Nat.reduceSub, Nat.reduceMul, Nat.reduceLeDiff, Int.reduceEq, Nat.reduceEqDiff, drawS, treeS, H32Fs19]
    refine ⟨(Ext.refl hA).push _, ?_⟩
    refine execT_one fun hB xB => ?_
    have tB := xB.get (push_new (h := hA))
    simp only [tB, splice, coreS, Value.cells, Value.oneCell', Nat.reduceAdd, Nat.reduceSub, Nat.reduceMul, Nat.reduceLeDiff, Int.reduceEq, Nat.reduceEqDiff, drawS, treeS, H32Fs19]
    refine stK_abs tB (by simp) fun hC gC uC => ?_
    simp only [splice] at gC
    have xx : Ext hA hC := uC.ext xB.of_push (Nat.le_refl _)
    try simp only [coreS, Value.cells, Value.oneCell', Nat.reduceAdd, Nat.reduceSub, Nat.reduceMul, Nat.reduceLeDiff, Int.reduceEq, Nat.reduceEqDiff, drawS, treeS, H32Fs19]
    refine execT_fin fun hD xD => ?_
    simp only [coreS, Value.cells, Value.oneCell', Nat.reduceAdd, Nat.reduceSub, Nat.reduceMul, Nat.reduceLeDiff, Int.reduceEq, Nat.reduceEqDiff, H32Fs19]
    exact midK_mk (by kernel_rfl) ⟨⟨hA.size, rfl, xD.get gC⟩, rfl, (xA.trans xx).trans xD⟩
  rintro f20 h26 ⟨⟨b20_, f20a, b20⟩, f20b, x26⟩
  replace k1 := x26.get k1
  replace k2 := x26.get k2
  replace ok1 := ok1.ext x26
  replace ok2 := ok2.ext x26
  replace y := y.trans x26
  replace I1 := I1.ext x26
  replace I2 := I2.ext x26
  replace b3 := x26.get b3
  replace b4 := x26.get b4
  replace b5 := x26.get b5
  replace b19 := x26.get b19
  simp only [k1, k2, b3, b4, b5, b19, b20, f20a, f20b, splice, coreS, Value.cells, Value.oneCell', Nat.reduceAdd, Nat.reduceSub, Nat.reduceMul, Nat.reduceLeDiff, Int.reduceEq, Nat.reduceEqDiff, H32Fs19]
  refine WP_cut [47, 48, 163, 164, 165, 166, 167, 168] (fun g h' => g 47 = .string ⟨#[99, 99]⟩ ∧ g 48 = .int .i64 0 ∧ Ext h26 h') ?_ ?_
  · refine WP_tree (by kernel_rfl) sta_ext (.quiet 0 (.quiet 1 (.quiet 2 (.quiet 3 (.quiet 4 (.quiet 5 (.quiet 6 (.quiet 7 (.fin))))))))) (by kernel_rfl) rfl (by kernel_rfl) ?_
    simp only [k1, k2, b3, b4, b5, b19, b20, splice, coreS, Value.cells, Value.oneCell', Nat.reduceAdd, Nat.reduceSub, Nat.reduceMul, Nat.reduceLeDiff, Int.reduceEq, Nat.reduceEqDiff, drawS, treeS, H32Fs19]
    refine cQ_ext _ (fun h' x' => CallsH.mono (to49 2 3 h') fun v h'' q => ⟨q.1, q.2⟩) ?_
    simp only [rgV, k1, k2, b3, b4, b5, b19, b20, splice, coreS, Value.cells, Value.oneCell', Nat.reduceAdd, Nat.reduceSub, Nat.reduceMul, Nat.reduceLeDiff, Int.reduceEq, Nat.reduceEqDiff, drawS, treeS, H32Fs19]
    refine cQ_ext _ (fun h' x' => CallsH.mono (surely43 (goodM g1) 2 3 2 h' (ok1.ext x')) fun v h'' q => ⟨q.1, q.2⟩) ?_
    simp only [(v21 g1).1, (v21 g1).2, splice, coreS, Value.cells, Value.oneCell', Nat.reduceAdd, Nat.reduceSub, Nat.reduceMul, Nat.reduceLeDiff, Int.reduceEq, Nat.reduceEqDiff, drawS, treeS, H32Fs19]
    refine execT_fin fun hD xD => ?_
    simp only [coreS, Value.cells, Value.oneCell', Nat.reduceAdd, Nat.reduceSub, Nat.reduceMul, Nat.reduceLeDiff, Int.reduceEq, Nat.reduceEqDiff, H32Fs19]
    exact midK_mk (by kernel_rfl) ⟨rfl, rfl, xD⟩
  rintro f21 h27 ⟨f21a, f21b, x27⟩
  replace k1 := x27.get k1
  replace k2 := x27.get k2
  replace ok1 := ok1.ext x27
  replace ok2 := ok2.ext x27
  replace y := y.trans x27
  replace I1 := I1.ext x27
  replace I2 := I2.ext x27
  replace b3 := x27.get b3
  replace b4 := x27.get b4
  replace b5 := x27.get b5
  replace b19 := x27.get b19
  replace b20 := x27.get b20
  simp only [k1, k2, b3, b4, b5, b19, b20, f21a, f21b, splice, coreS, Value.cells, Value.oneCell', Nat.reduceAdd, Nat.reduceSub, Nat.reduceMul, Nat.reduceLeDiff, Int.reduceEq, Nat.reduceEqDiff, H32Fs19]
  refine WP_cut [49, 50, 169, 170, 171, 172, 173, 174] (fun g h' => g 49 = .string (suP (goodM g1) 1 3 1) ∧ g 50 = .int .i64 22 ∧ Ext h27 h') ?_ ?_
  · refine WP_tree (by kernel_rfl) sta_ext (.quiet 0 (.quiet 1 (.quiet 2 (.quiet 3 (.quiet 4 (.quiet 5 (.quiet 6 (.quiet 7 (.fin))))))))) (by kernel_rfl) rfl (by kernel_rfl) ?_
    simp only [k1, k2, b3, b4, b5, b19, b20, splice, coreS, Value.cells, Value.oneCell', Nat.reduceAdd, Nat.reduceSub, Nat.reduceMul, Nat.reduceLeDiff, Int.reduceEq, Nat.reduceEqDiff, drawS, treeS, H32Fs19]
    refine cQ_ext _ (fun h' x' => CallsH.mono (to49 1 3 h') fun v h'' q => ⟨q.1, q.2⟩) ?_
    simp only [rgV, k1, k2, b3, b4, b5, b19, b20, splice, coreS, Value.cells, Value.oneCell', Nat.reduceAdd, Nat.reduceSub, Nat.reduceMul, Nat.reduceLeDiff, Int.reduceEq, Nat.reduceEqDiff, drawS, treeS, H32Fs19]
    refine cQ_ext _ (fun h' x' => CallsH.mono (surely43 (goodM g1) 1 3 1 h' (ok1.ext x')) fun v h'' q => ⟨q.1, q.2⟩) ?_
    simp only [v22 g1, splice, coreS, Value.cells, Value.oneCell', Nat.reduceAdd, Nat.reduceSub, Nat.reduceMul, Nat.reduceLeDiff, Int.reduceEq, Nat.reduceEqDiff, drawS, treeS, H32Fs19]
    refine execT_fin fun hD xD => ?_
    simp only [coreS, Value.cells, Value.oneCell', Nat.reduceAdd, Nat.reduceSub, Nat.reduceMul, Nat.reduceLeDiff, Int.reduceEq, Nat.reduceEqDiff, H32Fs19]
    exact midK_mk (by kernel_rfl) ⟨rfl, rfl, xD⟩
  rintro f22 h28 ⟨f22a, f22b, x28⟩
  replace k1 := x28.get k1
  replace k2 := x28.get k2
  replace ok1 := ok1.ext x28
  replace ok2 := ok2.ext x28
  replace y := y.trans x28
  replace I1 := I1.ext x28
  replace I2 := I2.ext x28
  replace b3 := x28.get b3
  replace b4 := x28.get b4
  replace b5 := x28.get b5
  replace b19 := x28.get b19
  replace b20 := x28.get b20
  simp only [k1, k2, b3, b4, b5, b19, b20, f22a, f22b, splice, coreS, Value.cells, Value.oneCell', Nat.reduceAdd, Nat.reduceSub, Nat.reduceMul, Nat.reduceLeDiff, Int.reduceEq, Nat.reduceEqDiff, H32Fs19]
  refine WP_cut [51, 52, 175, 176, 177, 178, 179, 180] (fun g h' => g 51 = .string (suP (goodM g1) 7 8 1) ∧ g 52 = .int .i64 3 ∧ Ext h28 h') ?_ ?_
  · refine WP_tree (by kernel_rfl) sta_ext (.quiet 0 (.quiet 1 (.quiet 2 (.quiet 3 (.quiet 4 (.quiet 5 (.quiet 6 (.quiet 7 (.fin))))))))) (by kernel_rfl) rfl (by kernel_rfl) ?_
    simp only [k1, k2, b3, b4, b5, b19, b20, splice, coreS, Value.cells, Value.oneCell', Nat.reduceAdd, Nat.reduceSub, Nat.reduceMul, Nat.reduceLeDiff, Int.reduceEq, Nat.reduceEqDiff, drawS, treeS, H32Fs19]
    refine cQ_ext _ (fun h' x' => CallsH.mono (to49 7 8 h') fun v h'' q => ⟨q.1, q.2⟩) ?_
    simp only [rgV, k1, k2, b3, b4, b5, b19, b20, splice, coreS, Value.cells, Value.oneCell', Nat.reduceAdd, Nat.reduceSub, Nat.reduceMul, Nat.reduceLeDiff, Int.reduceEq, Nat.reduceEqDiff, drawS, treeS, H32Fs19]
    refine cQ_ext _ (fun h' x' => CallsH.mono (surely43 (goodM g1) 7 8 1 h' (ok1.ext x')) fun v h'' q => ⟨q.1, q.2⟩) ?_
    simp only [v23 g1, splice, coreS, Value.cells, Value.oneCell', Nat.reduceAdd, Nat.reduceSub, Nat.reduceMul, Nat.reduceLeDiff, Int.reduceEq, Nat.reduceEqDiff, drawS, treeS, H32Fs19]
    refine execT_fin fun hD xD => ?_
    simp only [coreS, Value.cells, Value.oneCell', Nat.reduceAdd, Nat.reduceSub, Nat.reduceMul, Nat.reduceLeDiff, Int.reduceEq, Nat.reduceEqDiff, H32Fs19]
    exact midK_mk (by kernel_rfl) ⟨rfl, rfl, xD⟩
  rintro f23 h29 ⟨f23a, f23b, x29⟩
  replace k1 := x29.get k1
  replace k2 := x29.get k2
  replace ok1 := ok1.ext x29
  replace ok2 := ok2.ext x29
  replace y := y.trans x29
  replace I1 := I1.ext x29
  replace I2 := I2.ext x29
  replace b3 := x29.get b3
  replace b4 := x29.get b4
  replace b5 := x29.get b5
  replace b19 := x29.get b19
  replace b20 := x29.get b20
  simp only [k1, k2, b3, b4, b5, b19, b20, f23a, f23b, splice, coreS, Value.cells, Value.oneCell', Nat.reduceAdd, Nat.reduceSub, Nat.reduceMul, Nat.reduceLeDiff, Int.reduceEq, Nat.reduceEqDiff, H32Fs19]
  clear hL hR2 f1a f1b f19a f19b f20a f20b f21a f21b f22a f22b f23a f23b u18 u20 u24 e1 e2
  refine execR_quiet [181, 182, 183, 184, 185, 186, 187, 188, 189, 190, 191, 192, 193, 194, 195, 196, 197, 198, 199, 200, 201, 202, 203, 204, 205, 206, 207, 208, 209, 210, 211, 212, 213, 214, 215, 216, 217, 218, 219, 220, 221, 222, 223, 224, 225, 226, 227, 228, 229, 230, 231, 232, 233, 234, 235, 236, 237, 238, 239, 240, 241, 242, 243, 244, 245, 246, 247, 248, 249, 250, 251, 252, 253, 254, 255, 256, 257, 258, 259, 260, 261, 262, 263, 264, 265, 266, 267, 268, 269, 270] (by kernel_rfl) (by kernel_rfl) fun g hg => ?_
  have f24 : g 270 = .bool false := by rw [hg]; kernel_rfl
  clear hg
  simp only [k1, k2, b3, b4, b5, b19, b20, f24, splice, coreS, Value.cells, Value.oneCell', Nat.reduceAdd, Nat.reduceSub, Nat.reduceMul, Nat.reduceLeDiff, Int.reduceEq, Nat.reduceEqDiff, H32Fs19]
  have hcr := ckr_of (m := goodM g1) (x := 3) (p := p) (q := q) (u := u) (opn_one g1 (by decide)) hp1 hp2 hp3 (run_lt good_ok (by decide) hp1) (by omega) (by omega)
  refine CallsH.mono (ckr36 (goodM g1) 3 (planS p) (planS q) _ ok1 (by rw [planS_size]; omega) (by rw [planS_size]; omega)) ?_
  rintro v h30 ⟨rfl, x30⟩
  replace k1 := x30.get k1
  replace k2 := x30.get k2
  replace ok1 := ok1.ext x30
  replace ok2 := ok2.ext x30
  replace y := y.trans x30
  replace I1 := I1.ext x30
  replace I2 := I2.ext x30
  replace b3 := x30.get b3
  replace b4 := x30.get b4
  replace b5 := x30.get b5
  replace b19 := x30.get b19
  replace b20 := x30.get b20
  simp only [k1, k2, b3, b4, b5, b19, b20, hcr.1, ratV, splice, coreS, Value.cells, Value.oneCell', Nat.reduceAdd, Nat.reduceSub, Nat.reduceMul, Nat.reduceLeDiff, Int.reduceEq, Nat.reduceEqDiff, H32Fs19]
  refine stK_abs push_new (by simp) fun h31 g31 u31 => ?_
  have x31 : Ext h30 h31 := u31.ext ((Ext.refl h30).push _) (Nat.le_refl _)
  replace k1 := x31.get k1
  replace k2 := x31.get k2
  replace ok1 := ok1.ext x31
  replace ok2 := ok2.ext x31
  replace y := y.trans x31
  replace I1 := I1.ext x31
  replace I2 := I2.ext x31
  replace b3 := x31.get b3
  replace b4 := x31.get b4
  replace b5 := x31.get b5
  replace b19 := x31.get b19
  replace b20 := x31.get b20
  simp only [k1, k2, b3, b4, b5, b19, b20, splice, coreS, Value.cells, Value.oneCell', Nat.reduceAdd, Nat.reduceSub, Nat.reduceMul, Nat.reduceLeDiff, Int.reduceEq, Nat.reduceEqDiff, H32Fs19]
  refine WP_tree (by kernel_rfl) sta_ext (.quiet 0 (.quiet 1 (.quiet 2 (.quiet 3 (.quiet 4 (.quiet 5 (.quiet 6 (.quiet 7 (.quiet 8 (.quiet 9 (.quiet 10 (.quiet 11 (.quiet 12 (.quiet 13 (.quiet 14 (.quiet 15 (.quiet 16 (.quiet 17 (.quiet 18 (.quiet 19 (.keep 20 (.quiet 21 (.quiet 22 (.quiet 23 (.quiet 24 (.quiet 25 (.keep 26 (.quiet 27 (.quiet 28 (.quiet 29 (.quiet 30 (.quiet 31 (.quiet 32 (.quiet 33 (.quiet 34 (.quiet 35 (.quiet 36 (.quiet 37 (.quiet 38 (.quiet 39 (.quiet 40 (.quiet 41 (.quiet 42 (.quiet 43 (.quiet 44 (.quiet 45 (.quiet 46 (.quiet 47 (.quiet 48 (.quiet 49 (.quiet 50 (.quiet 51 (.quiet 52 (.quiet 53 (.fin))))))))))))))))))))))))))))))))))))))))))))))))))))))) (by kernel_rfl) rfl (by kernel_rfl) ?_
  simp only [k1, k2, b3, b4, b5, b19, b20, splice, decide_true, coreS, Value.cells, Value.oneCell', Nat.reduceAdd, Nat.reduceSub, Nat.reduceMul, Nat.reduceLeDiff, Int.reduceEq, Nat.reduceEqDiff, drawS, treeS, H32Fs19]
  have hx31 := y.size
  refine execT_keep fun hA xA => ?_
  simp only [splice, coreS, Value.cells, Value.oneCell', Nat.reduceAdd, Nat.reduceSub, Nat.reduceMul, Nat.reduceLeDiff, Int.reduceEq, Nat.reduceEqDiff, drawS, treeS, H32Fs19]
  refine ⟨(Ext.refl hA).push _, ?_⟩
  refine cQ_ext _ (fun h' x' => CallsH.mono (of54 _ h') fun v h'' q => ⟨q.1, by rw [q.2]; exact Ext.refl _⟩) ?_
  simp only [coreS, Value.cells, Value.oneCell', Nat.reduceAdd, Nat.reduceSub, Nat.reduceMul, Nat.reduceLeDiff, Int.reduceEq, Nat.reduceEqDiff, drawS, treeS, H32Fs19]
  refine cQ_ext _ (fun h' x' => CallsH.mono (ints32 a1 (some ⟨hA.size, 0, none⟩) _ _ 8 8 _ [0, 0, -1, -1, -1, -1, -1, -1] h' (I1.ext ((xA.push _).trans x')) (IntsV.block (xs := [0, 0, -1, -1, -1, -1, -1, -1]) (x'.get push_new)) (by show (8 : Nat) ≤ _; omega) (by omega)) fun v h'' q => ⟨q.1, by rw [q.2]; exact Ext.refl _⟩) ?_
  simp only [decide_true, coreS, Value.cells, Value.oneCell', Nat.reduceAdd, Nat.reduceSub, Nat.reduceMul, Nat.reduceLeDiff, Int.reduceEq, Nat.reduceEqDiff, drawS, treeS, H32Fs19]
  refine execT_keep fun hB xB => ?_
  simp only [splice, coreS, Value.cells, Value.oneCell', Nat.reduceAdd, Nat.reduceSub, Nat.reduceMul, Nat.reduceLeDiff, Int.reduceEq, Nat.reduceEqDiff, drawS, treeS, H32Fs19]
  refine ⟨(Ext.refl hB).push _, ?_⟩
  refine cQ_ext _ (fun h' x' => CallsH.mono (of54 _ h') fun v h'' q => ⟨q.1, by rw [q.2]; exact Ext.refl _⟩) ?_
  simp only [coreS, Value.cells, Value.oneCell', Nat.reduceAdd, Nat.reduceSub, Nat.reduceMul, Nat.reduceLeDiff, Int.reduceEq, Nat.reduceEqDiff, drawS, treeS, H32Fs19]
  refine cQ_ext _ (fun h' x' => CallsH.mono (ints32 a2 (some ⟨hB.size, 0, none⟩) _ _ 8 8 _ [0, 0, 0, 0, 1, 1, 0, 0] h' (I2.ext ((((xA.push _).trans xB).push _).trans x')) (IntsV.block (xs := [0, 0, 0, 0, 1, 1, 0, 0]) (x'.get push_new)) (by show (8 : Nat) ≤ _; omega) (by omega)) fun v h'' q => ⟨q.1, by rw [q.2]; exact Ext.refl _⟩) ?_
  obtain ⟨hF, hhF⟩ : ∃ hF, hF = hB.push (.cells (Eng.ints [0, 0, 0, 0, 1, 1, 0, 0]).toArray 3) := ⟨_, rfl⟩
  have xF : Ext h31 hF := by rw [hhF]; exact ((xA.push _).trans xB).push _
  have b3F := xF.get b3
  have b5F := xF.get b5
  have b19F := xF.get b19
  simp only [Eng.ints, List.map] at hhF
  rw [← hhF]
  simp only [decide_true, b3F, b5F, b19F, splice, coreS, Value.cells, Value.oneCell', Nat.reduceAdd, Nat.reduceSub, Nat.reduceMul, Nat.reduceLeDiff, Int.reduceEq, Nat.reduceEqDiff, drawS, treeS, H32Fs19]
  refine cQ_ext _ (fun h' x' => CallsH.mono (by55 1 1 h') fun v h'' q => ⟨q.1, q.2⟩) ?_
  simp only [coreS, Value.cells, Value.oneCell', Nat.reduceAdd, Nat.reduceSub, Nat.reduceMul, Nat.reduceLeDiff, Int.reduceEq, Nat.reduceEqDiff, drawS, treeS, H32Fs19]
  refine eq2Q (u := 45) (b := true) (by kernel_rfl) (xs := [((1 : Nat) : Int), ((1 : Nat) : Int)]) (ys := [1, 1]) rfl rfl rfl rfl (by decide) ?_
  simp only [b3F, b5F, b19F, splice, decide_true, coreS, Value.cells, Value.oneCell', Nat.reduceAdd, Nat.reduceSub, Nat.reduceMul, Nat.reduceLeDiff, Int.reduceEq, Nat.reduceEqDiff, drawS, treeS, H32Fs19]
  refine eq2Q (u := 45) (b := true) (by kernel_rfl) (xs := [((1 : Nat) : Int), ((1 : Nat) : Int)]) (ys := [((1 : Nat) : Int), ((1 : Nat) : Int)]) rfl rfl rfl rfl (by decide) ?_
  simp only [b3F, b5F, b19F, splice, decide_true, coreS, Value.cells, Value.oneCell', Nat.reduceAdd, Nat.reduceSub, Nat.reduceMul, Nat.reduceLeDiff, Int.reduceEq, Nat.reduceEqDiff, drawS, treeS, H32Fs19]
  refine cQ_ext _ (fun h' x' => CallsH.mono (to49 6 7 h') fun v h'' q => ⟨q.1, q.2⟩) ?_
  simp only [rgV, coreS, Value.cells, Value.oneCell', Nat.reduceAdd, Nat.reduceSub, Nat.reduceMul, Nat.reduceLeDiff, Int.reduceEq, Nat.reduceEqDiff, drawS, treeS, H32Fs19]
  refine eq2Q (u := 54) (b := true) (by kernel_rfl) (xs := [6, 7]) (ys := [6, 7]) rfl rfl rfl rfl (by decide) ?_
  simp only [b3F, b5F, b19F, splice, decide_true, coreS, Value.cells, Value.oneCell', Nat.reduceAdd, Nat.reduceSub, Nat.reduceMul, Nat.reduceLeDiff, Int.reduceEq, Nat.reduceEqDiff, drawS, treeS, H32Fs19]
  refine execT_fin fun hD xD => ?_
  simp only [decide_true, coreS, Value.cells, Value.oneCell', Nat.reduceAdd, Nat.reduceSub, Nat.reduceMul, Nat.reduceLeDiff, Int.reduceEq, Nat.reduceEqDiff, H32Fs19]
  exact y.trans (xF.trans xD)
end Go.Proofs.YtafemfjhflfdeaaDoor
end
section
set_option linter.unusedVariables false
set_option linter.unusedSimpArgs false
namespace Go.Eng
open Go Go.ChangeShapes Go.WideShapes Go.ChangeAt Go.RowKit
section rowkit
variable {P : Program} {H : Type} {enc : TypeId × Value → H}
theorem same_of {W W' : World} (x : Ext W.heap W'.heap) {p : MemPlace} (hp : p.block < W.heap.size) : W.sameAt W' p := by
  have h := x.old p.block hp
  cases p with
  | cell b o => exact World.cell?_of_block (w := W) h
  | map b => exact h
theorem trodAll_ext (hl : laidOutB P = true) {W W' : World} (x : Ext W.heap W'.heap) {sp : Nat → Bool} : ∀ {ts : List TypeId} {vs : List Value} {ds : List (DataW H)} {ps : List MemPlace},
    (ts.all fun t => P.readableRec t && decide (t < P.types.size)) = true → DataW.TrodAll enc P W 0 (fun _ => true) true ts vs ds ps → (∀ p ∈ ps, p.block < W.heap.size) → (∀ p ∈ ps, sp p.block = true) → DataW.TrodAll enc P W' 0 sp true ts vs ds ps
  | [], [], [], ps, _, h, _, _ => h
  | t :: ts, v :: vs, d :: ds, ps, ht, ⟨p, q, h1, h2, he⟩, hb, hs => by
    subst he
    simp only [List.all_cons, Bool.and_eq_true, decide_eq_true_eq] at ht
    exact ⟨p, q, WideElems.Trod_stays hl ht.1.1 ht.1.2 h1 (fun y hy => same_of x (hb y (by simp [hy]))) (fun y hy => hs y (by simp [hy])),
      trodAll_ext hl x (by simpa using ht.2) h2 (fun y hy => hb y (by simp [hy])) (fun y hy => hs y (by simp [hy])), rfl⟩
theorem calls_ext {f : FuncId} {args : Array Value} {W : World} {b : Bool} (hc : CallsH P f args W.heap (fun v h' => v = .bool b ∧ Ext W.heap h')) : Calls P f args W fun e W' => e = .returned (.bool b) ∧ Ext W.heap W'.heap ∧ Rest W W' := by
  unfold CallsH CallsW at hc
  refine Calls.mono (hc.2 W rfl) ?_
  rintro e W' ⟨v, rfl, ⟨rfl, x⟩, r⟩
  exact ⟨rfl, x, r⟩
end rowkit
end Go.Eng
end
section
set_option linter.unusedVariables false
set_option linter.unusedSimpArgs false
namespace Go.Eng
open Go Go.ChangeShapes Go.WideShapes Go.ChangeAt Go.RowKit
theorem open_str {P : Program} {H : Type} {enc : TypeId × Value → H} {W : World} {base b0 : Nat} {r : Reach} {sp : Nat → Bool} {held : Bool} {t : TypeId} {v : Value} {d : DataW H} {ps : List MemPlace} (ht : P.underlying t = some .string)
    (hval : Value.okWide P W r b0 t v) (hd : DataW.Trod enc P W base sp held t v d ps) : ∃ s, v = .string s ∧ s.size ≤ 9223372036854775807 := by
  obtain ⟨s, rfl⟩ := okWide_string ht hval
  obtain ⟨fuel, hf⟩ := hd
  obtain ⟨s2, h1, _, h2⟩ := DataW.trod_string ht hf
  simp [Value.cells] at h1
  subst h1
  exact ⟨s, rfl, h2⟩
theorem row_of {W : World} {a : Addr} {vs : List Value} (hc : ∀ i (hi : i < vs.length), W.cell? (a.add i) = some vs[i]) : Row W.heap (some a) vs := by
  by_cases hn : vs.length = 0
  · left; exact List.eq_nil_of_length_eq_zero hn
  right
  have key : ∀ i u, W.cell? (a.add i) = some u → (i = 0 → a.spot = none) ∧ ∃ cur ct fr, W.heap[a.block]? = some (.cells cur ct fr) ∧ cur[a.off + i]? = some u := by
    intro i u hu
    unfold World.cell? Addr.add at hu
    by_cases hi : i = 0
    · subst hi
      simp only [if_true] at hu
      split at hu <;> simp_all
    · simp only [hi, if_false] at hu
      split at hu <;> simp_all
  obtain ⟨hsp, cur, ct, fr, hb, _⟩ := key 0 _ (hc 0 (by omega))
  have hcur : ∀ i (hi : i < vs.length), cur[a.off + i]? = some vs[i] := fun i hi => by
    obtain ⟨_, cur2, ct2, fr2, hb2, hc2⟩ := key i _ (hc i hi)
    rw [hb] at hb2
    cases hb2
    exact hc2
  have hsz : a.off + vs.length ≤ cur.size := by
    have := hcur (vs.length - 1) (by omega)
    have := (Array.getElem?_eq_some_iff.1 this).1
    omega
  obtain ⟨b, off, spot⟩ := a
  replace hsp := hsp rfl
  simp only at hsp hb hcur hsz
  subst hsp
  refine ⟨b, off, cur, ct, fr, rfl, hb, hsz, ?_⟩
  apply List.ext_getElem?
  intro i
  rw [List.getElem?_take, List.getElem?_drop]
  by_cases hi : i < vs.length
  · rw [if_pos hi, Array.getElem?_toList, hcur i hi, List.getElem?_eq_getElem hi]
  · rw [if_neg hi, List.getElem?_eq_none (by omega)]
theorem list_choose {α : Type} {p : Nat → α → Prop} : ∀ n, (∀ i < n, ∃ x, p i x) → ∃ l : List α, l.length = n ∧ ∀ i (hi : i < l.length), p i l[i]
  | 0, _ => ⟨[], rfl, fun i hi => by simp at hi⟩
  | n + 1, H => by
    obtain ⟨l, hl, h⟩ := list_choose n fun i hi => H i (by omega)
    obtain ⟨x, hx⟩ := H n (by omega)
    refine ⟨l ++ [x], by simp [hl], fun i hi => ?_⟩
    by_cases hin : i < l.length
    · rw [List.getElem_append_left hin]; exact h i hin
    · have : i = l.length := by simp at hi; omega
      subst this
      rw [List.getElem_append_right (Nat.le_refl _)]
      simpa [hl] using hx
end Go.Eng
end
section
namespace Go.Proofs.YtafemfjhflfdeaaDoor
open Go Go.Proofs Go.Eng Go.Run Tab
set_option maxRecDepth 100000
set_option linter.unusedSimpArgs false
set_option linter.unusedVariables false
set_option linter.defProp false
set_option maxHeartbeats 4000000
set_option linter.defProp false
theorem gtT_none {P : Program} {R : Eng.Heap → Eng.Heap → Prop} {s : Tmp} {w : Bool} {op : Op} {ty : TypeId} {all : List Oper} {rest : PT} {k : Cont} {dst : Option Tmp} {e : Env} {d : List Deferred} {h : Eng.Heap} : gtT P R undef s w op ty all rest k dst e d h = execT P R all rest k (putE e dst undef) d h := gtT_undef
end Go.Proofs.YtafemfjhflfdeaaDoor
end
section
namespace Go.Proofs.YtafemfjhflfdeaaDoor
open Go Go.Proofs Go.Eng Go.Run Tab
set_option maxRecDepth 100000
set_option linter.unusedSimpArgs false
set_option linter.unusedVariables false
set_option linter.defProp false
set_option maxHeartbeats 8000000
set_option linter.defProp false
def H47Fs42 := (And.intro (And.intro (And.intro (And.intro @agg2 @agg24) (And.intro @agg54 @fo54_0)) (And.intro (And.intro @fo54_1 @fps54_0) (And.intro @fps54_1 @inf2))) (And.intro (And.intro (And.intro @inf24 @inf54) (And.intro @okf54 @sz2)) (And.intro (And.intro @sz24 @sz54) (And.intro @zero54 @Tryd.underlying2))))
def H47Fs78 := (And.intro (And.intro (And.intro @agg2 (And.intro @agg22 @agg24)) (And.intro @fo24_0 (And.intro @fo54_0 @fo54_1))) (And.intro (And.intro @inf2 (And.intro @inf22 @inf24)) (And.intro (And.intro @sz2 @sz22) (And.intro @sz24 @Tryd.underlying22))))
theorem range78 (m : MV) (lo hi : Int) (h : Eng.Heap) (hm : m.ok h) :
    CallsH Tryd.prog 78 #[m.val, rgV lo hi] h (fun v h' => v = .int .i64 (rgE m lo hi) ∧ Ext h h') := by
  have hval : Value.agg #[.slice m.a m.casts.length m.ca, .slice m.b m.waits.length m.cb, .int .i64 m.lo, .int .i64 m.hi] = m.val := rfl
  have q0 := pn0 (h := h) (o := .cells #[.slice m.a m.casts.length m.ca, .slice m.b m.waits.length m.cb, .int .i64 m.lo, .int .i64 m.hi] 24) (o' := .cells #[.int .i64 lo, .int .i64 hi] 54)
  have q1 := pn1 (h := h) (o := .cells #[.slice m.a m.casts.length m.ca, .slice m.b m.waits.length m.cb, .int .i64 m.lo, .int .i64 m.hi] 24) (o' := .cells #[.int .i64 lo, .int .i64 hi] 54)
  have x0 : Ext h ((h.push (.cells #[.slice m.a m.casts.length m.ca, .slice m.b m.waits.length m.cb, .int .i64 m.lo, .int .i64 m.hi] 24)).push (.cells #[.int .i64 lo, .int .i64 hi] 54)) := ((Ext.refl h).push _).push _
  (refine CallsH_of_exec Tryd.func78 rfl bod78 ?_; simp only [Tryd.ntmps78, Tryd.results78, coreS, stK_some, splice, Value.cells, Value.oneCell', Nat.reduceAdd, Nat.reduceSub, Nat.reduceMul, Nat.reduceLeDiff, Int.reduceEq, Nat.reduceEqDiff, H47Fs78])
  try simp only [q0, q1, splice, coreS, Value.cells, Value.oneCell', Nat.reduceAdd, Nat.reduceSub, Nat.reduceMul, Nat.reduceLeDiff, Int.reduceEq, Nat.reduceEqDiff, H47Fs78]
  try rw [hval]
  refine CallsH.mono (chk23 m _ (hm.ext x0)) ?_
  rintro v h1 ⟨rfl, x1⟩
  have y1 := x0.trans x1
  have b0 := x1.get q0
  have b1 := x1.get q1
  by_cases e0 : chk m = 0
  · have eR : rgE m lo hi = if lo < 0 ∨ hi < lo ∨ (m.casts.length : Int) ≤ hi then 3 else 0 := by rw [rgE, if_neg (by omega)]
    by_cases l1 : lo < 0
    case pos =>
      simp only [e0, b0, b1, l1, gd_none, decide_true, Bool.not_true, splice, coreS, Value.cells, Value.oneCell', Nat.reduceAdd, Nat.reduceSub, Nat.reduceMul, Nat.reduceLeDiff, Int.reduceEq, Nat.reduceEqDiff, H47Fs78]
      exact ⟨by rw [eR, if_pos (.inl l1)], y1⟩
    by_cases l2 : hi < lo
    case pos =>
      simp only [e0, b0, b1, l1, l2, gd_none, decide_true, decide_false, Bool.not_true, splice, coreS, Value.cells, Value.oneCell', Nat.reduceAdd, Nat.reduceSub, Nat.reduceMul, Nat.reduceLeDiff, Int.reduceEq, Nat.reduceEqDiff, H47Fs78]
      exact ⟨by rw [eR, if_pos (.inr (.inl l2))], y1⟩
    by_cases l3 : (m.casts.length : Int) ≤ hi
    case pos =>
      simp only [e0, b0, b1, l1, l2, l3, gd_none, decide_true, decide_false, Bool.not_true, splice, coreS, Value.cells, Value.oneCell', Nat.reduceAdd, Nat.reduceSub, Nat.reduceMul, Nat.reduceLeDiff, Int.reduceEq, Nat.reduceEqDiff, H47Fs78]
      exact ⟨by rw [eR, if_pos (.inr (.inr l3))], y1⟩
    simp only [e0, b0, b1, l1, l2, l3, gd_none, decide_true, decide_false, Bool.not_true, splice, coreS, Value.cells, Value.oneCell', Nat.reduceAdd, Nat.reduceSub, Nat.reduceMul, Nat.reduceLeDiff, Int.reduceEq, Nat.reduceEqDiff, H47Fs78]
    exact ⟨by rw [eR, if_neg (by omega)], y1⟩
  · have eR : rgE m lo hi = chk m := by rw [rgE, if_pos e0]
    simp only [e0, b0, b1, decide_false, Bool.not_false, splice, coreS, Value.cells, Value.oneCell', Nat.reduceAdd, Nat.reduceSub, Nat.reduceMul, Nat.reduceLeDiff, Int.reduceEq, Nat.reduceEqDiff, H47Fs78]
    try rw [hval]
    refine CallsH.mono (chk23 m h1 (hm.ext y1)) ?_
    rintro v h2 ⟨rfl, x2⟩
    simp only [coreS, Value.cells, Value.oneCell', Nat.reduceAdd, Nat.reduceSub, Nat.reduceMul, Nat.reduceLeDiff, Int.reduceEq, Nat.reduceEqDiff, H47Fs78]
    exact ⟨by rw [eR], y1.trans x2⟩
def uAt (m : MV) (p : List Bool) (q : Nat) : Nat := ((m.ov.run (q, q) p).getD (0, 0)).1
theorem uAt_run {m : MV} {p : List Bool} {q u v : Nat} (h : m.ov.run (q, q) p = some (u, v)) : uAt m p q = u := by rw [uAt, h]; rfl
theorem runAll42 (m : MV) (lo hi : Int) (s : ByteArray) (h : Eng.Heap) (hm : m.ok h) (hs : s.size ≤ 9223372036854775807) :
    CallsH Tryd.prog 42 #[m.val, rgV lo hi, .string s] h (fun v h' => v = .tuple #[spV (raV m lo hi s), .int .i64 (raE m lo hi s)] ∧ Ext h h') := by
  have key : ∀ {e : Int} {P : Prop}, raE m lo hi s = e → e ≠ 0 → P → Value.tuple #[.agg #[.int .i64 0, .int .i64 0], .int .i64 e] = .tuple #[spV (raV m lo hi s), .int .i64 (raE m lo hi s)] ∧ P := by
    rintro e P rfl he hP
    exact ⟨by rw [raV, if_neg he]; rfl, hP⟩
  have hval : Value.agg #[.slice m.a m.casts.length m.ca, .slice m.b m.waits.length m.cb, .int .i64 m.lo, .int .i64 m.hi] = m.val := rfl
  (refine CallsH_of_exec Tryd.func42 rfl bod42 ?_; simp only [Tryd.ntmps42, Tryd.results42, coreS, stK_some, splice, Value.cells, Value.oneCell', Nat.reduceAdd, Nat.reduceSub, Nat.reduceMul, Nat.reduceLeDiff, Int.reduceEq, Nat.reduceEqDiff, H47Fs42])
  simp only [show ¬ (h.size = h.size + 1 + 1) by omega, if_false, coreS, Value.cells, Value.oneCell', Nat.reduceAdd, Nat.reduceSub, Nat.reduceMul, Nat.reduceLeDiff, Int.reduceEq, Nat.reduceEqDiff, H47Fs42]
  have x0 : Ext h (((h.push (.cells #[.slice m.a m.casts.length m.ca, .slice m.b m.waits.length m.cb, .int .i64 m.lo, .int .i64 m.hi] 24)).push (.cells #[.int .i64 lo, .int .i64 hi] 54)).push (.cells #[.int .i64 0, .int .i64 0] 54)) := (((Ext.refl h).push _).push _).push _
  try rw [hval]
  refine CallsH.mono (range78 m lo hi _ (hm.ext x0)) ?_
  rintro v h1 ⟨rfl, x1⟩
  have y1 := x0.trans x1
  have b0 : h1[h.size]? = some (.cells #[.slice m.a m.casts.length m.ca, .slice m.b m.waits.length m.cb, .int .i64 m.lo, .int .i64 m.hi] 24) := x1.get (push_old (push_old push_new))
  have b1 : h1[h.size + 1]? = some (.cells #[.int .i64 lo, .int .i64 hi] 54) := x1.get (push_old pn1)
  have b2 : h1[h.size + 2]? = some (.cells #[.int .i64 0, .int .i64 0] 54) := x1.get (by rw [Array.getElem?_push, if_pos (by simp)])
  have hz := lt_of_get b2
  have hz2 := y1.size
  by_cases e0 : rgE m lo hi = 0
  case neg =>
    simp only [e0, b0, b1, b2, decide_false, Bool.not_false, splice, coreS, Value.cells, Value.oneCell', Nat.reduceAdd, Nat.reduceSub, Nat.reduceMul, Nat.reduceLeDiff, Int.reduceEq, Nat.reduceEqDiff, H47Fs42]
    try rw [hval]
    refine CallsH.mono (range78 m lo hi h1 (hm.ext y1)) ?_
    rintro v h2 ⟨rfl, x2⟩
    have c2 := x2.get b2
    simp only [c2, splice, coreS, Value.cells, Value.oneCell', Nat.reduceAdd, Nat.reduceSub, Nat.reduceMul, Nat.reduceLeDiff, Int.reduceEq, Nat.reduceEqDiff, H47Fs42]
    refine stK_abs c2 (by simp) fun h5 g5 u5 => ?_
    simp only [splice] at g5
    simp only [g5, splice, coreS, Value.cells, Value.oneCell', Nat.reduceAdd, Nat.reduceSub, Nat.reduceMul, Nat.reduceLeDiff, Int.reduceEq, Nat.reduceEqDiff, H47Fs42]
    exact key (by rw [raE, if_pos e0]) e0 (u5.ext (y1.trans x2) (by omega))
  obtain ⟨i, j, rfl, rfl, hij, hj, h16, gd, hin⟩ := rg_in e0
  have e1 : raE m i j s = if formE s ≠ 0 then formE s else if (m.ov.run (i, j) (bits s)).isNone then 22 else 0 := by rw [raE, if_neg (by simpa using e0), Int.toNat_natCast, Int.toNat_natCast]
  simp only [e0, b0, b1, b2, decide_true, Bool.not_true, splice, coreS, Value.cells, Value.oneCell', Nat.reduceAdd, Nat.reduceSub, Nat.reduceMul, Nat.reduceLeDiff, Int.reduceEq, Nat.reduceEqDiff, H47Fs42]
  refine CallsH.mono (formOf61 s h1 hs) ?_
  rintro v h2 ⟨rfl, rfl⟩
  by_cases hf : formE s = 0
  case neg =>
    simp only [hf, b2, decide_false, Bool.not_false, splice, coreS, Value.cells, Value.oneCell', Nat.reduceAdd, Nat.reduceSub, Nat.reduceMul, Nat.reduceLeDiff, Int.reduceEq, Nat.reduceEqDiff, H47Fs42]
    refine CallsH.mono (formOf61 s h2 hs) ?_
    rintro v h3 ⟨rfl, rfl⟩
    simp only [b2, splice, coreS, Value.cells, Value.oneCell', Nat.reduceAdd, Nat.reduceSub, Nat.reduceMul, Nat.reduceLeDiff, Int.reduceEq, Nat.reduceEqDiff, H47Fs42]
    refine stK_abs b2 (by simp) fun h5 g5 u5 => ?_
    simp only [splice] at g5
    simp only [g5, splice, coreS, Value.cells, Value.oneCell', Nat.reduceAdd, Nat.reduceSub, Nat.reduceMul, Nat.reduceLeDiff, Int.reduceEq, Nat.reduceEqDiff, H47Fs42]
    exact key (by rw [e1, if_pos hf]) hf (u5.ext y1 (by omega))
  obtain ⟨hs5, hl⟩ := form_ok hf
  rw [if_neg (by simpa using hf)] at e1
  obtain ⟨p, hp⟩ : ∃ p, bits s = p := ⟨_, rfl⟩
  rw [hp] at e1
  simp only [hf, b1, decide_true, Bool.not_true, splice, coreS, Value.cells, Value.oneCell', Nat.reduceAdd, Nat.reduceSub, Nat.reduceMul, Nat.reduceLeDiff, Int.reduceEq, Nat.reduceEqDiff, H47Fs42]
  refine stK_abs push_new (by simp) fun h3 g3 u3 => ?_
  simp only [splice] at g3
  have c0 := u3.get (push_old b0) (by have := lt_of_get b0; omega)
  have c1 := u3.get (push_old b1) (by have := lt_of_get b1; omega)
  have c2 := u3.get (push_old b2) (by omega)
  have y3 : Ext h h3 := u3.ext (y1.push _) hz2
  simp only [c1, splice, coreS, Value.cells, Value.oneCell', Nat.reduceAdd, Nat.reduceSub, Nat.reduceMul, Nat.reduceLeDiff, Int.reduceEq, Nat.reduceEqDiff, H47Fs42]
  refine WP_loopI [7, 9, 10, 11, 12, 30, 31, 32, 33, 34, 35, 36, 37, 38, 39, 40, 41, 42, 43, 44, 45, 46, 47, 48, 49, 50, 51, 52, 53, 54, 55, 56, 57, 58, 59, 60, 61, 62] (fun g h' => ∃ q : Nat, i ≤ q ∧ q ≤ j + 1 ∧ g 9 = .int .i64 q ∧ g 7 = .int .i64 0 ∧ Ext h h' ∧ h'[h.size]? = some (.cells #[.slice m.a m.casts.length m.ca, .slice m.b m.waits.length m.cb, .int .i64 m.lo, .int .i64 m.hi] 24) ∧ h'[h.size + 1]? = some (.cells #[.int .i64 (i : Int), .int .i64 (j : Int)] 54) ∧ h'[h.size + 2]? = some (.cells #[.int .i64 0, .int .i64 0] 54) ∧ h'[h2.size]? = some (.cells #[.int .i64 ((if q = i then 0 else uAt m p i : Nat) : Int), .int .i64 ((if q = i then 0 else uAt m p (q - 1) : Nat) : Int)] 54) ∧ ∀ t, i ≤ t → t < q → m.ov.run (t, t) p = some (uAt m p t, uAt m p t)) (fun g _ => match g 9 with | .int _ n => j + 1 - n.toNat | _ => 0) ⟨i, Nat.le_refl _, by omega, rfl, rfl, y3, c0, c1, c2, by simpa using g3, fun t h1 h2 => by omega⟩ ?_
  clear c0 c1 c2 g3 u3 y3
  rintro g h' ⟨q, hq1, hq2, hg, hg7, y, c0, c1, c2, co, hall⟩
  by_cases hqj : q ≤ j
  · have l1 : (q : Int) ≤ j := by omega
    have hqn : q < m.casts.length := by omega
    simp only [hg, hg7, c0, c1, l1, decide_true, splice, coreS, Value.cells, Value.oneCell', Nat.reduceAdd, Nat.reduceSub, Nat.reduceMul, Nat.reduceLeDiff, Int.reduceEq, Nat.reduceEqDiff, H47Fs42]
    try rw [hval]
    refine CallsH.mono (runOf45 m q s h' gd (hm.ext y) hqn hl (by omega)) ?_
    rintro v h4 ⟨rfl, x4⟩
    have y4 := y.trans x4
    have d0 := x4.get c0
    have d1 := x4.get c1
    have d2 := x4.get c2
    have d3 := x4.get co
    rw [hp]
    have hszo := lt_of_get d3
    cases hr : m.ov.run (q, q) p with
    | none =>
      simp only [runOfV, d2, Bool.not_false, splice, coreS, Value.cells, Value.oneCell', Nat.reduceAdd, Nat.reduceSub, Nat.reduceMul, Nat.reduceLeDiff, Int.reduceEq, Nat.reduceEqDiff, H47Fs42]
      refine stK_abs d2 (by simp) fun h5 g5 u5 => ?_
      simp only [splice] at g5
      simp only [g5, splice, coreS, Value.cells, Value.oneCell', Nat.reduceAdd, Nat.reduceSub, Nat.reduceMul, Nat.reduceLeDiff, Int.reduceEq, Nat.reduceEqDiff, H47Fs42]
      refine key ?_ (by omega) (u5.ext y4 (by omega))
      rw [e1]
      cases hrr : m.ov.run (i, j) p with
      | none => rfl
      | some t =>
        obtain ⟨u, hu, _⟩ := OV.run_between gd.ok p i q j t hq1 hqj hj hrr
        rw [hr] at hu
        cases hu
    | some t =>
      have ht := OV.run_same gd.ok hr
      obtain ⟨u, u2⟩ := t
      obtain rfl : u2 = u := congrArg Prod.snd ht
      have hU := uAt_run hr
      have hall2 : ∀ t, i ≤ t → t < q + 1 → m.ov.run (t, t) p = some (uAt m p t, uAt m p t) := fun t h1 h2 => by
        by_cases htq : t = q
        · rw [htq, hr, hU]
        · exact hall t h1 (by omega)
      by_cases hqi : q = i
      · subst hqi
        simp only [if_true] at d3
        simp only [runOfV, d1, d3, Bool.not_true, decide_true, splice, coreS, Value.cells, Value.oneCell', Nat.reduceAdd, Nat.reduceSub, Nat.reduceMul, Nat.reduceLeDiff, Int.reduceEq, Nat.reduceEqDiff, H47Fs42]
        refine stK_abs d3 (by simp) fun h5 g5 u5 => ?_
        simp only [splice] at g5
        simp only [g5, ite_self, splice, coreS, Value.cells, Value.oneCell', Nat.reduceAdd, Nat.reduceSub, Nat.reduceMul, Nat.reduceLeDiff, Int.reduceEq, Nat.reduceEqDiff, H47Fs42]
        refine stK_abs g5 (by simp) fun h6 g6 u6 => ?_
        simp only [splice] at g6
        simp only [coreS, Value.cells, Value.oneCell', Nat.reduceAdd, Nat.reduceSub, Nat.reduceMul, Nat.reduceLeDiff, Int.reduceEq, Nat.reduceEqDiff, H47Fs42]
        have hne : ¬ (q + 1 = q) := by omega
        have n0 : h2.size ≠ h.size := by omega
        have n1 : h2.size ≠ h.size + 1 := by omega
        have n2 : h2.size ≠ h.size + 2 := by omega
        refine ⟨by rw [inK_i64]; omega, roundK_mk (by kernel_rfl) ⟨q + 1, by omega, by omega, rfl, by simp, u6.ext (u5.ext y4 (by omega)) (by omega), u6.get (u5.get d0 n0.symm) n0.symm, u6.get (u5.get d1 n1.symm) n1.symm, u6.get (u5.get d2 n2.symm) n2.symm, ?_, hall2⟩ ?_⟩
        · rw [if_neg hne, if_neg hne, Nat.add_sub_cancel, hU]; simpa using g6
        · show j + 1 - ((q : Int) + 1).toNat < j + 1 - (q : Int).toNat
          omega
      · have hqi2 : ¬ ((q : Int) = (i : Int)) := by omega
        simp only [hqi, if_false] at d3
        have m1 := hall (q - 1) (by omega) (by omega)
        have m2 := hall i (Nat.le_refl _) (by omega)
        have mo1 := (OV.run_mono gd.ok (s := (q - 1, q - 1)) (t := (q, q)) ⟨by show q - 1 < m.casts.length; omega, by show q - 1 < m.casts.length; omega⟩ ⟨hqn, hqn⟩ (by show q - 1 ≤ q; omega) (by show q - 1 ≤ q; omega) m1 hr).1
        have mo2 := (OV.run_mono gd.ok (s := (i, i)) (t := (q, q)) ⟨by show i < m.casts.length; omega, by show i < m.casts.length; omega⟩ ⟨hqn, hqn⟩ hq1 hq1 m2 hr).1
        simp only at mo1 mo2
        have q1 : ¬ ((u2 : Int) < (uAt m p i : Nat)) := by omega
        have q2 : (if ((uAt m p (q - 1) : Nat) : Int) < (u2 : Int) then (u2 : Int) else ((uAt m p (q - 1) : Nat) : Int)) = (u2 : Int) := by split <;> omega
        simp only [runOfV, d1, d3, hqi2, q1, q2, Bool.not_true, decide_false, if_false, splice, coreS, Value.cells, Value.oneCell', Nat.reduceAdd, Nat.reduceSub, Nat.reduceMul, Nat.reduceLeDiff, Int.reduceEq, Nat.reduceEqDiff, H47Fs42]
        refine stK_abs d3 (by simp) fun h6 g6 u6 => ?_
        simp only [splice] at g6
        simp only [coreS, Value.cells, Value.oneCell', Nat.reduceAdd, Nat.reduceSub, Nat.reduceMul, Nat.reduceLeDiff, Int.reduceEq, Nat.reduceEqDiff, H47Fs42]
        have hne : ¬ (q + 1 = i) := by omega
        have n0 : h2.size ≠ h.size := by omega
        have n1 : h2.size ≠ h.size + 1 := by omega
        have n2 : h2.size ≠ h.size + 2 := by omega
        refine ⟨by rw [inK_i64]; omega, roundK_mk (by kernel_rfl) ⟨q + 1, by omega, by omega, rfl, by simp, u6.ext y4 (by omega), u6.get d0 n0.symm, u6.get d1 n1.symm, u6.get d2 n2.symm, ?_, hall2⟩ ?_⟩
        · rw [if_neg hne, if_neg hne, Nat.add_sub_cancel, hU]; simpa using g6
        · show j + 1 - ((q : Int) + 1).toNat < j + 1 - (q : Int).toNat
          omega
  · obtain rfl : q = j + 1 := by omega
    have l1 : ¬ ((j + 1 : Nat) : Int) ≤ (j : Int) := by omega
    have hne : ¬ (j + 1 = i) := by omega
    have hzo := lt_of_get co
    rw [if_neg hne, if_neg hne, Nat.add_sub_cancel] at co
    have r1 := hall i (Nat.le_refl _) (by omega)
    have r2 := hall j hij (by omega)
    have hsp : m.ov.run (i, j) p = some (uAt m p i, uAt m p j) := by rw [OV.run_span gd.ok p i j hij hj, r1, r2]; rfl
    have hE : raE m i j s = 0 := by rw [e1, hsp]; rfl
    have hV : raV m i j s = (uAt m p i, uAt m p j) := by rw [raV, if_pos hE, Int.toNat_natCast, Int.toNat_natCast, hp, hsp]; rfl
    simp only [hg, c1, c2, co, l1, decide_false, splice, coreS, Value.cells, Value.oneCell', Nat.reduceAdd, Nat.reduceSub, Nat.reduceMul, Nat.reduceLeDiff, Int.reduceEq, Nat.reduceEqDiff, H47Fs42]
    refine stK_abs c2 (by simp) fun h6 g6 u6 => ?_
    simp only [splice] at g6
    simp only [g6, splice, coreS, Value.cells, Value.oneCell', Nat.reduceAdd, Nat.reduceSub, Nat.reduceMul, Nat.reduceLeDiff, Int.reduceEq, Nat.reduceEqDiff, H47Fs42]
    exact ⟨by rw [hE, hV], u6.ext y (by omega)⟩
end Go.Proofs.YtafemfjhflfdeaaDoor
end
section
namespace Go.Proofs.YtafemfjhflfdeaaDoor
open Go Go.Proofs Go.Eng Go.Run Tab
set_option maxRecDepth 100000
set_option linter.unusedSimpArgs false
set_option linter.unusedVariables false
set_option linter.defProp false
set_option maxHeartbeats 16000000
namespace OV
variable {o : OV}
def srt (a b : Nat) : Sp := (min a b, max a b)
theorem srt_in {a b : Nat} (ha : a < o.n) (hb : b < o.n) : o.In (srt a b) := ⟨by show min a b < o.n; omega, by show max a b < o.n; omega⟩
theorem srt_can {a b : Nat} : o.can (srt a b) = (o.can (a, a) && o.can (b, b)) := by
  rw [Bool.eq_iff_iff]
  simp only [can, Bool.and_eq_true, decide_eq_true_eq]
  show (o.lo ≤ min a b ∧ max a b ≤ o.hi) ↔ (o.lo ≤ a ∧ a ≤ o.hi) ∧ o.lo ≤ b ∧ b ≤ o.hi
  omega
theorem srt_C (ok : o.ok) {a b : Nat} (ha : a < o.n) (hb : b < o.n) : o.C (srt a b) = srt (o.c a) (o.c b) := by
  rcases Nat.le_total a b with h | h
  · have := ok.cm a b h hb
    simp only [C, srt, Nat.min_eq_left h, Nat.max_eq_right h, Nat.min_eq_left this, Nat.max_eq_right this]
  · have := ok.cm b a h ha
    simp only [C, srt, Nat.min_eq_right h, Nat.max_eq_left h, Nat.min_eq_right this, Nat.max_eq_left this]
theorem srt_W (ok : o.ok) {a b : Nat} (ha : a < o.n) (hb : b < o.n) : o.W (srt a b) = srt (o.w a) (o.w b) := by
  rcases Nat.le_total a b with h | h
  · have := ok.wm a b h hb
    simp only [W, srt, Nat.min_eq_left h, Nat.max_eq_right h, Nat.min_eq_left this, Nat.max_eq_right this]
  · have := ok.wm b a h ha
    simp only [W, srt, Nat.min_eq_right h, Nat.max_eq_left h, Nat.min_eq_right this, Nat.max_eq_left this]
theorem srt_fix (ok : o.ok) {a b : Nat} (ha : a < o.n) (hb : b < o.n) : o.W (srt a b) = srt a b ↔ ¬ (o.w a < a ∨ o.w b < b) := by
  rw [srt_W ok ha hb]
  have h1 := ok.wg a ha
  have h2 := ok.wg b hb
  simp only [srt, Prod.mk.injEq]
  omega
end OV
theorem idx_lt {a b n : Nat} (ha : a < n) (hb : b < n) : a * n + b < n * n := by
  have : (a + 1) * n ≤ n * n := Nat.mul_le_mul_right n ha
  rw [Nat.succ_mul] at this
  omega
theorem idx_div {a b n : Nat} (hb : b < n) : (a * n + b) / n = a ∧ (a * n + b) % n = b := by
  have hn : 0 < n := by omega
  constructor
  · rw [Nat.mul_comm, Nat.mul_add_div hn, Nat.div_eq_of_lt hb, Nat.add_zero]
  · rw [Nat.mul_comm, Nat.mul_add_mod, Nat.mod_eq_of_lt hb]
def sqL (m : MV) (k x : Nat) : List Int := (List.range x).map fun t => enc (m.ov.lw k (OV.srt (t / m.casts.length) (t % m.casts.length)))
def sqV (m : MV) (k a b : Nat) : Int := enc (m.ov.lw k (OV.srt a b))
theorem sqL_length (m : MV) (k x : Nat) : (sqL m k x).length = x := by simp [sqL]
theorem sqL_succ (m : MV) (k a b : Nat) (hb : b < m.casts.length) : sqL m k (a * m.casts.length + b + 1) = sqL m k (a * m.casts.length + b) ++ [sqV m k a b] := by
  rw [sqL, List.range_succ, List.map_append, List.map_singleton, (idx_div hb).1, (idx_div hb).2]
  rfl
theorem sqL_zero (m : MV) (x : Nat) : sqL m 0 x = List.replicate x 0 := by
  rw [sqL]
  have : (fun t => enc (m.ov.lw 0 (OV.srt (t / m.casts.length) (t % m.casts.length)))) = fun _ => (0 : Int) := by
    funext t; rw [OV.lw_zero]; rfl
  rw [this, List.map_const', List.length_range]
theorem sqL_at (m : MV) (k x a b : Nat) (hb : b < m.casts.length) (h : a * m.casts.length + b < x) : (ints (sqL m k x))[a * m.casts.length + b]? = some (.int .i64 (sqV m k a b)) := by
  rw [ints_getElem? _ _ (by rw [sqL_length]; exact h), List.getD_eq_getElem?_getD, List.getElem?_eq_getElem (by rw [sqL_length]; exact h)]
  simp only [sqL, List.getElem_map, List.getElem_range, Option.getD_some, (idx_div hb).1, (idx_div hb).2]
  rfl
theorem sq_set (m : MV) (k x n : Nat) (v w : Int) : (sqL m k x ++ v :: List.replicate n 0).set x w = sqL m k x ++ w :: List.replicate n 0 := by
  have := set_mid (sqL m k x) n v w
  rwa [sqL_length] at this
theorem sq_mid (m : MV) (k x n : Nat) (v : Int) : (ints (sqL m k x ++ v :: List.replicate n 0))[x]? = some (.int .i64 v) := by
  rw [ints_getElem? _ _ (by rw [List.length_append, sqL_length, List.length_cons]; omega)]
  congr 2
  rw [List.getD_eq_getElem?_getD, List.getElem?_append_right (by rw [sqL_length]; omega), sqL_length, Nat.sub_self]
  rfl
theorem sq_lt (m : MV) (k x n a b : Nat) (v : Int) (hb : b < m.casts.length) (h : a * m.casts.length + b < x) : (ints (sqL m k x ++ v :: List.replicate n 0))[a * m.casts.length + b]? = some (.int .i64 (sqV m k a b)) := by
  have h1 := sqL_at m k x a b hb h
  rw [ints_getElem? _ _ (by rw [sqL_length]; exact h)] at h1
  rw [ints_getElem? _ _ (by rw [List.length_append, sqL_length, List.length_cons]; omega), ← h1]
  congr 2
  rw [List.getD_eq_getElem?_getD, List.getElem?_append_left (by rw [sqL_length]; exact h), ← List.getD_eq_getElem?_getD]
theorem prodA (a b B C : Nat) (ha : a ≤ B) (hb : b ≤ C) : ∃ p : Nat, a * b = p ∧ (a : Int) * (b : Int) = (p : Int) ∧ p ≤ B * C := ⟨a * b, rfl, by omega, Nat.mul_le_mul ha hb⟩
def castQ (m : MV) (k a b : Nat) : Int := enc (castO m k (OV.srt a b))
def waitQ (m : MV) (k a b : Nat) : Int := enc (waitO m k (OV.srt a b))
theorem sq_new {m : MV} (gd : m.Good) {k a b : Nat} (ha : a < m.casts.length) (hb : b < m.casts.length) : sqV m (k + 1) a b = if 0 ≤ waitQ m k a b ∧ (castQ m k a b < 0 ∨ waitQ m k a b + 1 < castQ m k a b) then waitQ m k a b + 1 else castQ m k a b := by
  rw [sqV, lw_cw gd (OV.srt_in ha hb)]
  exact enc_better _ _
theorem wait_bound {m : MV} (gd : m.Good) (hn : m.casts.length ≤ 16) {k a b : Nat} (hk : k ≤ 1000) (ha : a < m.casts.length) (hb : b < m.casts.length) : waitQ m k a b ≤ 40000 := by
  unfold waitQ waitO
  split
  · simp [enc]
  · cases hl : m.ov.lw (k + 1) (m.ov.W (OV.srt a b)) with
    | none => simp [enc]
    | some y =>
      have := lw_le gd hn ((OV.srt_in (o := m.ov) ha hb).w gd.ok) hl
      simp only [enc]
      omega
end Go.Proofs.YtafemfjhflfdeaaDoor
end
section
namespace Go.Proofs.YtafemfjhflfdeaaDoor
open Go Go.Proofs Go.Eng Tab Go.ChangeShapes Go.WideShapes Go.ChangeAt Go.RowKit
set_option maxRecDepth 100000
set_option linter.unusedSimpArgs false
set_option linter.unusedVariables false
section opens
variable {H : Type} {enc : TypeId × Value → H} {W : World} {base b0 : Nat} {r : Reach} {sp : Nat → Bool} {held : Bool} {v : Value} {d : DataW H} {ps : List MemPlace}
theorem cel3 : Tryd.prog.cellsOf 3 = 1 := by kernel_rfl
theorem cel2 : Tryd.prog.cellsOf 2 = 1 := by kernel_rfl
theorem cel22 : Tryd.prog.cellsOf 22 = 1 := by kernel_rfl
theorem cel24 : Tryd.prog.cellsOf 24 = 4 := by kernel_rfl
theorem cel54 : Tryd.prog.cellsOf 54 = 2 := by kernel_rfl
theorem trod_ints {fuel : Nat} {cs : List Value} {x : DataW H × List MemPlace} (h : DataW.trod enc Tryd.prog W base sp held fuel 22 cs = some x) : ∃ a n c xs, cs = [.slice a n c] ∧ IntsV W.heap a n xs := by
  rcases DataW.trod_slice Tryd.underlying22 h with ⟨rfl, _⟩ | ⟨a, len, cap, elems, rest, m, rfl, rfl, rfl, hb, hl, hm, hlen, hel, _, _⟩
  · exact ⟨none, 0, 0, [], rfl, IntsV.nil _⟩
  rw [cel3] at hel
  have each : ∀ i, i < len → ∃ e : Int, W.cell? (a.add i) = some (.int .i64 e) := by
    intro i hi
    have h1 := hel i hi
    rw [List.getElem?_eq_getElem (by omega), Option.bind_eq_some_iff] at h1
    obtain ⟨cs, h2, h3⟩ := h1
    obtain ⟨e, rfl, _⟩ := DataW.trod_int Tryd.underlying3 h3
    refine ⟨e, ?_⟩
    have h4 := (World.cells?_some h2).2.2 0 (by omega)
    rw [Nat.mul_one] at h4
    have e0 : (a.add i).add 0 = a.add i := by
      unfold Addr.add
      split <;> simp_all
    rw [e0] at h4
    rw [h4]
    rfl
  obtain ⟨es, hes, hE⟩ := list_choose len each
  have hr : Row W.heap (some a) (Eng.ints es) := row_of fun i hi => by
    rw [Eng.ints_length] at hi
    rw [hE i hi]
    simp [Eng.ints]
  exact ⟨some a, len, cap, es, rfl, hes.symm ▸ rfl, hr⟩
theorem open_mould (hval : Value.okWide Tryd.prog W r b0 24 v) (hd : DataW.Trod enc Tryd.prog W base sp held 24 v d ps) : ∃ m : MV, v = m.val ∧ IntsV W.heap m.a m.casts.length m.casts ∧ IntsV W.heap m.b m.waits.length m.waits := by
  obtain ⟨cs, rfl, hs⟩ := okWide_struct Tryd.underlying24 hval
  obtain ⟨fuel, hf⟩ := hd
  obtain ⟨xs, n, rfl, _, hl, hxl, hf⟩ := DataW.trod_struct Tryd.underlying24 hf
  rw [cel24] at hl
  simp only [Value.cells] at hl hf
  obtain ⟨cs⟩ := cs
  simp only at hl hf
  obtain ⟨c0, c1, c2, c3, rfl⟩ : ∃ c0 c1 c2 c3, cs = [c0, c1, c2, c3] := by
    match cs, hl with
    | [c0, c1, c2, c3], _ => exact ⟨_, _, _, _, rfl⟩
  obtain ⟨y0, y1, y2, y3, rfl⟩ : ∃ y0 y1 y2 y3, xs = [y0, y1, y2, y3] := by
    match xs, hxl with
    | [y0, y1, y2, y3], _ => exact ⟨_, _, _, _, rfl⟩
  have f0 : DataW.trod enc Tryd.prog W base sp held n 22 (([c0, c1, c2, c3].drop 0).take (Tryd.prog.cellsOf 22)) = some y0 := hf 0 _ rfl
  have f1 : DataW.trod enc Tryd.prog W base sp held n 22 (([c0, c1, c2, c3].drop 1).take (Tryd.prog.cellsOf 22)) = some y1 := hf 1 _ rfl
  have f2 : DataW.trod enc Tryd.prog W base sp held n 3 (([c0, c1, c2, c3].drop 2).take (Tryd.prog.cellsOf 3)) = some y2 := hf 2 _ rfl
  have f3 : DataW.trod enc Tryd.prog W base sp held n 3 (([c0, c1, c2, c3].drop 3).take (Tryd.prog.cellsOf 3)) = some y3 := hf 3 _ rfl
  rw [cel22] at f0 f1
  rw [cel3] at f2 f3
  obtain ⟨a0, n0, k0, x0, e0, i0⟩ := trod_ints f0
  obtain ⟨a1, n1, k1, x1, e1, i1⟩ := trod_ints f1
  obtain ⟨n2, e2, _, w2⟩ := DataW.trod_int Tryd.underlying3 f2
  obtain ⟨n3, e3, _, w3⟩ := DataW.trod_int Tryd.underlying3 f3
  simp at e0 e1 e2 e3
  subst e0 e1 e2 e3
  have l0 := i0.len
  have l1 := i1.len
  subst l0 l1
  exact ⟨⟨x0, x1, n2, n3, a0, a1, k0, k1⟩, rfl, i0, i1⟩
theorem open_range (hval : Value.okWide Tryd.prog W r b0 54 v) (hd : DataW.Trod enc Tryd.prog W base sp held 54 v d ps) : ∃ lo hi : Int, v = .agg #[.int .i64 lo, .int .i64 hi] := by
  obtain ⟨cs, rfl, hs⟩ := okWide_struct Tryd.underlying54 hval
  obtain ⟨fuel, hf⟩ := hd
  obtain ⟨xs, n, rfl, _, hl, hxl, hf⟩ := DataW.trod_struct Tryd.underlying54 hf
  rw [cel54] at hl
  simp only [Value.cells] at hl hf
  obtain ⟨cs⟩ := cs
  simp only at hl hf
  obtain ⟨c0, c1, rfl⟩ : ∃ c0 c1, cs = [c0, c1] := by
    match cs, hl with
    | [c0, c1], _ => exact ⟨_, _, rfl⟩
  obtain ⟨y0, y1, rfl⟩ : ∃ y0 y1, xs = [y0, y1] := by
    match xs, hxl with
    | [y0, y1], _ => exact ⟨_, _, rfl⟩
  have f0 : DataW.trod enc Tryd.prog W base sp held n 2 (([c0, c1].drop 0).take (Tryd.prog.cellsOf 2)) = some y0 := hf 0 _ rfl
  have f1 : DataW.trod enc Tryd.prog W base sp held n 2 (([c0, c1].drop 1).take (Tryd.prog.cellsOf 2)) = some y1 := hf 1 _ rfl
  rw [cel2] at f0 f1
  obtain ⟨n2, e2, _, w2⟩ := DataW.trod_int Tryd.underlying2 f0
  obtain ⟨n3, e3, _, w3⟩ := DataW.trod_int Tryd.underlying2 f1
  simp at e2 e3
  subst e2 e3
  exact ⟨n2, n3, rfl⟩
end opens
end Go.Proofs.YtafemfjhflfdeaaDoor
end
section
namespace Go.Proofs.YtafemfjhflfdeaaDoor
open Go Go.Proofs Go.Eng Go.Run Tab
set_option maxRecDepth 100000
set_option linter.unusedSimpArgs false
set_option linter.unusedVariables false
set_option linter.defProp false
set_option maxHeartbeats 8000000
set_option linter.defProp false
theorem prod_atom (a b B C : Nat) (ha : a ≤ B) (hb : b ≤ C) : ∃ p : Nat, a * b = p ∧ (a : Int) * (b : Int) = (p : Int) ∧ p ≤ B * C := ⟨a * b, rfl, by omega, Nat.mul_le_mul ha hb⟩
end Go.Proofs.YtafemfjhflfdeaaDoor
end
