/- Texts joined by pack.py: lemmas for YtafemfjhflfdeaaDoorKnown. No condition. -/
import Derived.Test.YtafemfjhflfdeaaDoorPB11
import Derived.ProofKit
import Derived.OpenShut
import Derived.Below
import Derived.WideKeyArgs
import Derived.ChangeSlices
set_option linter.unusedSimpArgs false
set_option linter.unusedVariables false
set_option linter.defProp false
section
namespace Go.Proofs.YtafemfjhflfdeaaDoor
open Go Go.Proofs Go.Eng Go.Run Tab
set_option maxRecDepth 100000
set_option linter.unusedSimpArgs false
set_option linter.unusedVariables false
set_option linter.defProp false
set_option maxHeartbeats 8000000
set_option linter.defProp false
def H32Fs19 := (And.intro (And.intro (And.intro (And.intro @agg24 @agg45) (And.intro @agg54 @by3)) (And.intro (And.intro @inf24 @inf3) (And.intro @inf45 @inf54))) (And.intro (And.intro (And.intro @sz24 @sz3) (And.intro @sz45 @sz54)) (And.intro (And.intro @zero24 @zero3) (And.intro @zero45 (And.intro @zero54 @Tryd.underlying22)))))
theorem lab_of {m : MV} {v : Value} {h : Eng.Heap} (hc : chk m = 0) (H : LabV m v h) : ∃ a c, v = .tuple #[.slice a m.casts.length c, .int .i64 0] ∧ IntsV h a m.casts.length (moL m m.casts.length) := by
  rcases H with ⟨_, H⟩ | ⟨H, _⟩
  · exact H
  · exact absurd hc H
theorem rov_zero {m : MV} {x : Int} {v : Value} (h0 : roE m x = 0) (H : RoV m x v) : ∃ (p q : List Bool) (u : Nat), v = .tuple #[.string (planS p), .string (planS q), .int .i64 0] ∧ m.ov.run (x.toNat, x.toNat) p = some (u, u) ∧ m.ov.run (u, u) q = some (u, u) ∧ 1 ≤ OV.casts q ∧ p.length + q.length ≤ 300 := by
  rcases H with ⟨h, _⟩ | ⟨_, H⟩
  · exact absurd h0 h
  · exact H
theorem rov_ne {m : MV} {x : Int} {v : Value} (h0 : roE m x ≠ 0) (H : RoV m x v) : v = .tuple #[.string ⟨#[]⟩, .string ⟨#[]⟩, .int .i64 (roE m x)] := by
  rcases H with ⟨_, H⟩ | ⟨h, _⟩
  · exact H
  · exact absurd h h0
theorem run_lt {o : OV} (ok : o.ok) {i u : Nat} {p : List Bool} (hi : i < o.n) (h : o.run (i, i) p = some (u, u)) : u < o.n := (OV.in_run ok (s := (i, i)) ⟨hi, hi⟩ h).1
theorem eq2Q {er : Env} {h : Eng.Heap} {ty yt u : TypeId} {x y : Operand} (hfl : ((Pt.pr.ty u).map fun t => t.fl) = some (List.replicate 2 .i)) {xs ys : List Int} (h2 : xs.length = 2) (h2' : ys.length = 2) {b : Bool} {K : Value → Eng.Heap → Prop} (hx : ev er x = .agg (Eng.ints xs).toArray) (hy : ev er y = .agg (Eng.ints ys).toArray) (hb : decide (xs = ys) = b) (H : K (.bool b) h) : opQS Tryd.prog Ext (.binOp .eql u x y yt) ty er h K := by
  unfold opQS
  obtain ⟨ti, hti, hfl⟩ := Option.map_eq_some_iff.1 hfl
  refine ⟨.bool b, fun h' hr => ?_, H⟩
  exact eqIntsW Pt.ok hti (xs := xs) (ys := ys) (by omega) (by omega) (by rw [h2]; exact hfl) hx hy ⟨by rw [hb], Ext.refl _⟩
theorem works19 (h : Eng.Heap) : CallsH Tryd.prog 19 #[] h (fun v h' => v = .bool true ∧ Ext h h') := by
  (refine CallsH_of_exec Tryd.func19 rfl bod19 ?_; simp only [Tryd.ntmps19, Tryd.results19, coreS, stK_some, splice, Value.cells, Value.oneCell', Nat.reduceAdd, Nat.reduceSub, Nat.reduceMul, Nat.reduceLeDiff, Int.reduceEq, Nat.reduceEqDiff, H32Fs19])
  refine CallsH.mono (good52 _) ?_
  rintro v h1 ⟨⟨g1, rfl, ok1⟩, x1⟩
  simp only [coreS, Value.cells, Value.oneCell', Nat.reduceAdd, Nat.reduceSub, Nat.reduceMul, Nat.reduceLeDiff, Int.reduceEq, Nat.reduceEqDiff, H32Fs19]
  refine CallsH.mono (stuck53 _) ?_
  rintro v h2 ⟨⟨g2, rfl, ok2⟩, x2⟩
  simp only [splice, coreS, Value.cells, Value.oneCell', Nat.reduceAdd, Nat.reduceSub, Nat.reduceMul, Nat.reduceLeDiff, Int.reduceEq, Nat.reduceEqDiff, H32Fs19]
  obtain ⟨c1, hc1⟩ : ∃ c, c = h2.size := ⟨_, rfl⟩
  have q0 := pn0 (h := h2) (o := .cells #[.slice none 0 0, .slice none 0 0, .int .i64 0, .int .i64 0] 24) (o' := .cells #[.slice none 0 0, .slice none 0 0, .int .i64 0, .int .i64 0] 24)
  have q1 := pn1 (h := h2) (o := .cells #[.slice none 0 0, .slice none 0 0, .int .i64 0, .int .i64 0] 24) (o' := .cells #[.slice none 0 0, .slice none 0 0, .int .i64 0, .int .i64 0] 24)
  have y0 : Ext h2 ((h2.push (.cells #[.slice none 0 0, .slice none 0 0, .int .i64 0, .int .i64 0] 24)).push (.cells #[.slice none 0 0, .slice none 0 0, .int .i64 0, .int .i64 0] 24)) := ((Ext.refl h2).push _).push _
  refine stK_abs q0 (by simp) fun h3 g3 u3 => ?_
  simp only [splice] at g3
  have k3 := u3.get q1 (by omega)
  simp only [k3, splice, coreS, Value.cells, Value.oneCell', Nat.reduceAdd, Nat.reduceSub, Nat.reduceMul, Nat.reduceLeDiff, Int.reduceEq, Nat.reduceEqDiff, H32Fs19]
  refine stK_abs k3 (by simp) fun h4 g4 u4 => ?_
  simp only [splice] at g4
  have k1 := u4.get g3 (by omega)
  have k2 := g4
  have y2 := u4.ext (u3.ext y0 (by omega)) (by omega)
  have y := (x1.trans x2).trans y2
  replace ok1 := (ok1.ext x2).ext y2
  replace ok2 := ok2.ext y2
  have e1 : (goodM g1).val = .agg #[.slice (goodM g1).a (goodM g1).casts.length (goodM g1).ca, .slice (goodM g1).b (goodM g1).waits.length (goodM g1).cb, .int .i64 (goodM g1).lo, .int .i64 (goodM g1).hi] := rfl
  have e2 : (stuckM g2).val = .agg #[.slice (stuckM g2).a (stuckM g2).casts.length (stuckM g2).ca, .slice (stuckM g2).b (stuckM g2).waits.length (stuckM g2).cb, .int .i64 (stuckM g2).lo, .int .i64 (stuckM g2).hi] := rfl
  clear q0 q1 y0 g3 g4 k3 u3 u4 x1 x2 y2
  rw [← hc1] at k1 k2
  simp only [← hc1]
  clear hc1
  simp only [k1, splice, coreS, Value.cells, Value.oneCell', Nat.reduceAdd, Nat.reduceSub, Nat.reduceMul, Nat.reduceLeDiff, Int.reduceEq, Nat.reduceEqDiff, H32Fs19]
  refine CallsH.mono (run20 (goodM g1) 3 ⟨#[99, 99, 119]⟩ _ ok1 (by decide)) ?_
  rintro v h5 ⟨rfl, x5⟩
  replace k1 := x5.get k1
  replace k2 := x5.get k2
  replace ok1 := ok1.ext x5
  replace ok2 := ok2.ext x5
  replace y := y.trans x5
  simp only [k1, k2, (v1 g1).1, (v1 g1).2.1, (v1 g1).2.2, splice, coreS, Value.cells, Value.oneCell', Nat.reduceAdd, Nat.reduceSub, Nat.reduceMul, Nat.reduceLeDiff, Int.reduceEq, Nat.reduceEqDiff, H32Fs19]
  refine CallsH.mono (run20 (goodM g1) 3 ⟨#[99, 99, 99]⟩ _ ok1 (by decide)) ?_
  rintro v h6 ⟨rfl, x6⟩
  replace k1 := x6.get k1
  replace k2 := x6.get k2
  replace ok1 := ok1.ext x6
  replace ok2 := ok2.ext x6
  replace y := y.trans x6
  simp only [k1, k2, v2 g1, splice, coreS, Value.cells, Value.oneCell', Nat.reduceAdd, Nat.reduceSub, Nat.reduceMul, Nat.reduceLeDiff, Int.reduceEq, Nat.reduceEqDiff, H32Fs19]
  refine CallsH.mono (run20 (goodM g1) 3 ⟨#[99, 120]⟩ _ ok1 (by decide)) ?_
  rintro v h7 ⟨rfl, x7⟩
  replace k1 := x7.get k1
  replace k2 := x7.get k2
  replace ok1 := ok1.ext x7
  replace ok2 := ok2.ext x7
  replace y := y.trans x7
  simp only [k1, k2, v3 g1, splice, coreS, Value.cells, Value.oneCell', Nat.reduceAdd, Nat.reduceSub, Nat.reduceMul, Nat.reduceLeDiff, Int.reduceEq, Nat.reduceEqDiff, H32Fs19]
  refine CallsH.mono (run20 (goodM g1) 8 ⟨#[99]⟩ _ ok1 (by decide)) ?_
  rintro v h8 ⟨rfl, x8⟩
  replace k1 := x8.get k1
  replace k2 := x8.get k2
  replace ok1 := ok1.ext x8
  replace ok2 := ok2.ext x8
  replace y := y.trans x8
  simp only [k1, k2, v4 g1, splice, coreS, Value.cells, Value.oneCell', Nat.reduceAdd, Nat.reduceSub, Nat.reduceMul, Nat.reduceLeDiff, Int.reduceEq, Nat.reduceEqDiff, H32Fs19]
  refine CallsH.mono (fewest24 (goodM g1) 3 4 _ ok1) ?_
  rintro v h9 ⟨rfl, x9⟩
  replace k1 := x9.get k1
  replace k2 := x9.get k2
  replace ok1 := ok1.ext x9
  replace ok2 := ok2.ext x9
  replace y := y.trans x9
  simp only [k1, k2, (v5 g1).1, (v5 g1).2, splice, coreS, Value.cells, Value.oneCell', Nat.reduceAdd, Nat.reduceSub, Nat.reduceMul, Nat.reduceLeDiff, Int.reduceEq, Nat.reduceEqDiff, H32Fs19]
  refine CallsH.mono (fewest24 (goodM g1) 1 1 _ ok1) ?_
  rintro v h10 ⟨rfl, x10⟩
  replace k1 := x10.get k1
  replace k2 := x10.get k2
  replace ok1 := ok1.ext x10
  replace ok2 := ok2.ext x10
  replace y := y.trans x10
  simp only [k1, k2, v6 g1, splice, coreS, Value.cells, Value.oneCell', Nat.reduceAdd, Nat.reduceSub, Nat.reduceMul, Nat.reduceLeDiff, Int.reduceEq, Nat.reduceEqDiff, H32Fs19]
  refine CallsH.mono (plan26 (goodM g1) 3 4 _ ok1) ?_
  rintro v h11 ⟨rfl, x11⟩
  replace k1 := x11.get k1
  replace k2 := x11.get k2
  replace ok1 := ok1.ext x11
  replace ok2 := ok2.ext x11
  replace y := y.trans x11
  simp only [k1, k2, v7 g1, (v5 g1).2, splice, coreS, Value.cells, Value.oneCell', Nat.reduceAdd, Nat.reduceSub, Nat.reduceMul, Nat.reduceLeDiff, Int.reduceEq, Nat.reduceEqDiff, H32Fs19]
  refine CallsH.mono (most28 (goodM g1) 3 _ ok1) ?_
  rintro v h12 ⟨rfl, x12⟩
  replace k1 := x12.get k1
  replace k2 := x12.get k2
  replace ok1 := ok1.ext x12
  replace ok2 := ok2.ext x12
  replace y := y.trans x12
  simp only [k1, k2, v8 g1, splice, coreS, Value.cells, Value.oneCell', Nat.reduceAdd, Nat.reduceSub, Nat.reduceMul, Nat.reduceLeDiff, Int.reduceEq, Nat.reduceEqDiff, H32Fs19]
  refine CallsH.mono (most28 (stuckM g2) 4 _ ok2) ?_
  rintro v h13 ⟨rfl, x13⟩
  replace k1 := x13.get k1
  replace k2 := x13.get k2
  replace ok1 := ok1.ext x13
  replace ok2 := ok2.ext x13
  replace y := y.trans x13
  simp only [k1, k2, (v9 g2).1, (v9 g2).2, splice, coreS, Value.cells, Value.oneCell', Nat.reduceAdd, Nat.reduceSub, Nat.reduceMul, Nat.reduceLeDiff, Int.reduceEq, Nat.reduceEqDiff, H32Fs19]
  refine CallsH.mono (labels30 (goodM g1) _ ok1) ?_
  rintro v h14 ⟨hL, x14⟩
  replace k1 := x14.get k1
  replace k2 := x14.get k2
  replace ok1 := ok1.ext x14
  replace ok2 := ok2.ext x14
  replace y := y.trans x14
  obtain ⟨a1, d1, rfl, I1⟩ := lab_of (good_chk g1) hL
  simp only [k1, k2, splice, coreS, Value.cells, Value.oneCell', Nat.reduceAdd, Nat.reduceSub, Nat.reduceMul, Nat.reduceLeDiff, Int.reduceEq, Nat.reduceEqDiff, H32Fs19]
  rw [show moL (goodM g1) (goodM g1).casts.length = [0, 0, -1, -1, -1, -1, -1, -1] from moL_good g1] at I1
  refine CallsH.mono (labels30 (stuckM g2) _ ok2) ?_
  rintro v h15 ⟨hL, x15⟩
  replace k1 := x15.get k1
  replace k2 := x15.get k2
  replace ok1 := ok1.ext x15
  replace ok2 := ok2.ext x15
  replace y := y.trans x15
  replace I1 := I1.ext x15
  obtain ⟨a2, d2, rfl, I2⟩ := lab_of (stuck_chk g2) hL
  simp only [k1, k2, splice, coreS, Value.cells, Value.oneCell', Nat.reduceAdd, Nat.reduceSub, Nat.reduceMul, Nat.reduceLeDiff, Int.reduceEq, Nat.reduceEqDiff, H32Fs19]
  rw [show moL (stuckM g2) (stuckM g2).casts.length = [0, 0, 0, 0, 1, 1, 0, 0] from moL_stuck g2] at I2
  refine WP_cut [29, 30, 116, 117, 118, 119, 120, 121, 122, 123] (fun g h' => g 29 = .int .i64 0 ∧ g 30 = .int .i64 14 ∧ Ext h15 h') ?_ ?_
  · refine WP_tree (by kernel_rfl) sta_ext (.quiet 0 (.quiet 4 (.fork 1 5 (.quiet 2 (.quiet 3 (.keep 5 (.quiet 6 (.quiet 7 (.quiet 8 (.quiet 9 (.fin)))))))) (.keep 1 (.quiet 2 (.quiet 3 (.quiet 6 (.quiet 7 (.quiet 8 (.quiet 9 (.fin))))))))))) (by kernel_rfl) rfl (by kernel_rfl) ?_
    simp only [k1, k2, splice, coreS, Value.cells, Value.oneCell', Nat.reduceAdd, Nat.reduceSub, Nat.reduceMul, Nat.reduceLeDiff, Int.reduceEq, Nat.reduceEqDiff, drawS, treeS, H32Fs19]
    refine execT_fork fun hA xA => ⟨?_, ?_⟩
    · simp only [splice, coreS, Value.cells, Value.oneCell', Nat.reduceAdd, Nat.reduceSub, Nat.reduceMul, Nat.reduceLeDiff, Int.reduceEq, Nat.reduceEqDiff, drawS, treeS, H32Fs19]
      refine ⟨(Ext.refl hA).push _, ?_⟩
      refine cQ_ext _ (fun h' x' => CallsH.mono (of54 _ h') fun v h'' q => ⟨q.1, by rw [q.2]; exact Ext.refl _⟩) ?_
      simp only [k1, k2, coreS, Value.cells, Value.oneCell', Nat.reduceAdd, Nat.reduceSub, Nat.reduceMul, Nat.reduceLeDiff, Int.reduceEq, Nat.reduceEqDiff, drawS, treeS, H32Fs19]
      refine cQ_ext _ (fun h' x' => CallsH.mono (ckl33 (stuckM g2) (some ⟨hA.size, 0, none⟩) 8 8 [0, 0, 0, 0, 1, 1, 0, 0] h' (ok2.ext ((xA.push _).trans x')) (IntsV.block (xs := [0, 0, 0, 0, 1, 1, 0, 0]) (x'.get push_new)) (by omega)) fun v h'' q => ⟨q.1, q.2⟩) ?_
      simp only [v12 g2, coreS, Value.cells, Value.oneCell', Nat.reduceAdd, Nat.reduceSub, Nat.reduceMul, Nat.reduceLeDiff, Int.reduceEq, Nat.reduceEqDiff, drawS, treeS, H32Fs19]
      refine execT_keep fun hB xB => ?_
      simp only [splice, coreS, Value.cells, Value.oneCell', Nat.reduceAdd, Nat.reduceSub, Nat.reduceMul, Nat.reduceLeDiff, Int.reduceEq, Nat.reduceEqDiff, drawS, treeS, H32Fs19]
      refine ⟨(Ext.refl hB).push _, ?_⟩
      refine cQ_ext _ (fun h' x' => CallsH.mono (of54 _ h') fun v h'' q => ⟨q.1, by rw [q.2]; exact Ext.refl _⟩) ?_
      simp only [k1, k2, coreS, Value.cells, Value.oneCell', Nat.reduceAdd, Nat.reduceSub, Nat.reduceMul, Nat.reduceLeDiff, Int.reduceEq, Nat.reduceEqDiff, drawS, treeS, H32Fs19]
      refine cQ_ext _ (fun h' x' => CallsH.mono (ckl33 (stuckM g2) (some ⟨hB.size, 0, none⟩) 8 8 [0, 0, 0, 0, 2, 1, 1, 0] h' (ok2.ext ((((xA.push _).trans xB).push _).trans x')) (IntsV.block (xs := [0, 0, 0, 0, 2, 1, 1, 0]) (x'.get push_new)) (by omega)) fun v h'' q => ⟨q.1, q.2⟩) ?_
      simp only [v13 g2, coreS, Value.cells, Value.oneCell', Nat.reduceAdd, Nat.reduceSub, Nat.reduceMul, Nat.reduceLeDiff, Int.reduceEq, Nat.reduceEqDiff, drawS, treeS, H32Fs19]
      refine execT_fin fun hC xC => ?_
      simp only [coreS, Value.cells, Value.oneCell', Nat.reduceAdd, Nat.reduceSub, Nat.reduceMul, Nat.reduceLeDiff, Int.reduceEq, Nat.reduceEqDiff, H32Fs19]
      exact midK_mk (by kernel_rfl) ⟨rfl, rfl, (((xA.push _).trans xB).push _).trans xC⟩
    · simp only [splice, coreS, Value.cells, Value.oneCell', Nat.reduceAdd, Nat.reduceSub, Nat.reduceMul, Nat.reduceLeDiff, Int.reduceEq, Nat.reduceEqDiff, drawS, treeS, H32Fs19]
      refine ⟨(Ext.refl hA).push _, ?_⟩
      refine execT_keep fun hB xB => ?_
      simp only [splice, coreS, Value.cells, Value.oneCell', Nat.reduceAdd, Nat.reduceSub, Nat.reduceMul, Nat.reduceLeDiff, Int.reduceEq, Nat.reduceEqDiff, drawS, treeS, H32Fs19]
      refine ⟨(Ext.refl hB).push _, ?_⟩
      refine cQ_ext _ (fun h' x' => CallsH.mono (of54 _ h') fun v h'' q => ⟨q.1, by rw [q.2]; exact Ext.refl _⟩) ?_
      simp only [k1, k2, coreS, Value.cells, Value.oneCell', Nat.reduceAdd, Nat.reduceSub, Nat.reduceMul, Nat.reduceLeDiff, Int.reduceEq, Nat.reduceEqDiff, drawS, treeS, H32Fs19]
      refine cQ_ext _ (fun h' x' => CallsH.mono (ckl33 (stuckM g2) (some ⟨hB.size, 0, none⟩) 8 8 [0, 0, 0, 0, 1, 1, 0, 0] h' (ok2.ext ((((xA.push _).trans xB).push _).trans x')) (IntsV.block (xs := [0, 0, 0, 0, 1, 1, 0, 0]) (x'.get push_new)) (by omega)) fun v h'' q => ⟨q.1, q.2⟩) ?_
      simp only [v12 g2, coreS, Value.cells, Value.oneCell', Nat.reduceAdd, Nat.reduceSub, Nat.reduceMul, Nat.reduceLeDiff, Int.reduceEq, Nat.reduceEqDiff, drawS, treeS, H32Fs19]
      refine cQ_ext _ (fun h' x' => CallsH.mono (of54 _ h') fun v h'' q => ⟨q.1, by rw [q.2]; exact Ext.refl _⟩) ?_
      simp only [k1, k2, coreS, Value.cells, Value.oneCell', Nat.reduceAdd, Nat.reduceSub, Nat.reduceMul, Nat.reduceLeDiff, Int.reduceEq, Nat.reduceEqDiff, drawS, treeS, H32Fs19]
      refine cQ_ext _ (fun h' x' => CallsH.mono (ckl33 (stuckM g2) (some ⟨hA.size, 0, none⟩) 8 8 [0, 0, 0, 0, 2, 1, 1, 0] h' (ok2.ext ((((xA.push _).trans xB).push _).trans x')) (IntsV.block (xs := [0, 0, 0, 0, 2, 1, 1, 0]) (x'.get (push_old (xB.get push_new)))) (by omega)) fun v h'' q => ⟨q.1, q.2⟩) ?_
      simp only [v13 g2, coreS, Value.cells, Value.oneCell', Nat.reduceAdd, Nat.reduceSub, Nat.reduceMul, Nat.reduceLeDiff, Int.reduceEq, Nat.reduceEqDiff, drawS, treeS, H32Fs19]
      refine execT_fin fun hC xC => ?_
      simp only [coreS, Value.cells, Value.oneCell', Nat.reduceAdd, Nat.reduceSub, Nat.reduceMul, Nat.reduceLeDiff, Int.reduceEq, Nat.reduceEqDiff, H32Fs19]
      exact midK_mk (by kernel_rfl) ⟨rfl, rfl, (((xA.push _).trans xB).push _).trans xC⟩
  rintro f1 h16 ⟨f1a, f1b, x16⟩
  replace k1 := x16.get k1
  replace k2 := x16.get k2
  replace ok1 := ok1.ext x16
  replace ok2 := ok2.ext x16
  replace y := y.trans x16
  replace I1 := I1.ext x16
  replace I2 := I2.ext x16
  simp only [k1, k2, f1a, f1b, splice, coreS, Value.cells, Value.oneCell', Nat.reduceAdd, Nat.reduceSub, Nat.reduceMul, Nat.reduceLeDiff, Int.reduceEq, Nat.reduceEqDiff, H32Fs19]
  refine CallsH.mono (ckr35 (goodM g1) 3 ⟨#[99, 99, 119]⟩ ⟨#[99, 119]⟩ _ ok1 (by decide) (by decide)) ?_
  rintro v h17 ⟨rfl, x17⟩
  replace k1 := x17.get k1
  replace k2 := x17.get k2
  replace ok1 := ok1.ext x17
  replace ok2 := ok2.ext x17
  replace y := y.trans x17
  replace I1 := I1.ext x17
  replace I2 := I2.ext x17
  simp only [k1, k2, (v14 g1).1, (v14 g1).2, ratV, splice, coreS, Value.cells, Value.oneCell', Nat.reduceAdd, Nat.reduceSub, Nat.reduceMul, Nat.reduceLeDiff, Int.reduceEq, Nat.reduceEqDiff, H32Fs19]
  refine stK_abs push_new (by simp) fun h18 b3 u18 => ?_
  simp only [splice] at b3
  have x18 : Ext h17 h18 := u18.ext ((Ext.refl h17).push _) (Nat.le_refl _)
  replace k1 := x18.get k1
  replace k2 := x18.get k2
  replace ok1 := ok1.ext x18
  replace ok2 := ok2.ext x18
  replace y := y.trans x18
  replace I1 := I1.ext x18
  replace I2 := I2.ext x18
  simp only [k1, k2, b3, splice, coreS, Value.cells, Value.oneCell', Nat.reduceAdd, Nat.reduceSub, Nat.reduceMul, Nat.reduceLeDiff, Int.reduceEq, Nat.reduceEqDiff, H32Fs19]
  refine CallsH.mono (ckr35 (goodM g1) 3 ⟨#[99]⟩ ⟨#[99, 119]⟩ _ ok1 (by decide) (by decide)) ?_
  rintro v h19 ⟨rfl, x19⟩
  replace k1 := x19.get k1
  replace k2 := x19.get k2
  replace ok1 := ok1.ext x19
  replace ok2 := ok2.ext x19
  replace y := y.trans x19
  replace I1 := I1.ext x19
  replace I2 := I2.ext x19
  replace b3 := x19.get b3
  simp only [k1, k2, b3, v15 g1, ratV, splice, coreS, Value.cells, Value.oneCell', Nat.reduceAdd, Nat.reduceSub, Nat.reduceMul, Nat.reduceLeDiff, Int.reduceEq, Nat.reduceEqDiff, H32Fs19]
  refine stK_abs push_new (by simp) fun h20 b4 u20 => ?_
  simp only [splice] at b4
  have x20 : Ext h19 h20 := u20.ext ((Ext.refl h19).push _) (Nat.le_refl _)
  replace k1 := x20.get k1
  replace k2 := x20.get k2
  replace ok1 := ok1.ext x20
  replace ok2 := ok2.ext x20
  replace y := y.trans x20
  replace I1 := I1.ext x20
  replace I2 := I2.ext x20
  replace b3 := x20.get b3
  simp only [k1, k2, b3, b4, splice, coreS, Value.cells, Value.oneCell', Nat.reduceAdd, Nat.reduceSub, Nat.reduceMul, Nat.reduceLeDiff, Int.reduceEq, Nat.reduceEqDiff, H32Fs19]
  refine CallsH.mono (round39 (goodM g1) 3 _ ok1) ?_
  rintro v h21 ⟨hR, x21⟩
  replace k1 := x21.get k1
  replace k2 := x21.get k2
  replace ok1 := ok1.ext x21
  replace ok2 := ok2.ext x21
  replace y := y.trans x21
  replace I1 := I1.ext x21
  replace I2 := I2.ext x21
  replace b3 := x21.get b3
  replace b4 := x21.get b4
  obtain ⟨p, q, u, rfl, hp1, hp2, hp3, hp4⟩ := rov_zero (v16 g1) hR
  simp only [k1, k2, b3, b4, splice, coreS, Value.cells, Value.oneCell', Nat.reduceAdd, Nat.reduceSub, Nat.reduceMul, Nat.reduceLeDiff, Int.reduceEq, Nat.reduceEqDiff, H32Fs19]
  refine CallsH.mono (round39 (stuckM g2) 4 _ ok2) ?_
  rintro v h22 ⟨hR2, x22⟩
  replace k1 := x22.get k1
  replace k2 := x22.get k2
  replace ok1 := ok1.ext x22
  replace ok2 := ok2.ext x22
  replace y := y.trans x22
  replace I1 := I1.ext x22
  replace I2 := I2.ext x22
  replace b3 := x22.get b3
  replace b4 := x22.get b4
  obtain rfl := rov_ne (by rw [v17 g2]; decide) hR2
  simp only [k1, k2, b3, b4, v17 g2, splice, coreS, Value.cells, Value.oneCell', Nat.reduceAdd, Nat.reduceSub, Nat.reduceMul, Nat.reduceLeDiff, Int.reduceEq, Nat.reduceEqDiff, H32Fs19]
  refine CallsH.mono (rate37 (goodM g1) 3 _ ok1) ?_
  rintro v h23 ⟨rfl, x23⟩
  replace k1 := x23.get k1
  replace k2 := x23.get k2
  replace ok1 := ok1.ext x23
  replace ok2 := ok2.ext x23
  replace y := y.trans x23
  replace I1 := I1.ext x23
  replace I2 := I2.ext x23
  replace b3 := x23.get b3
  replace b4 := x23.get b4
  simp only [k1, k2, b3, b4, v18 g1, v16 g1, ratV, splice, coreS, Value.cells, Value.oneCell', Nat.reduceAdd, Nat.reduceSub, Nat.reduceMul, Nat.reduceLeDiff, Int.reduceEq, Nat.reduceEqDiff, H32Fs19]
  refine stK_abs push_new (by simp) fun h24 b5 u24 => ?_
  simp only [splice] at b5
  have x24 : Ext h23 h24 := u24.ext ((Ext.refl h23).push _) (Nat.le_refl _)
  replace k1 := x24.get k1
  replace k2 := x24.get k2
  replace ok1 := ok1.ext x24
  replace ok2 := ok2.ext x24
  replace y := y.trans x24
  replace I1 := I1.ext x24
  replace I2 := I2.ext x24
  replace b3 := x24.get b3
  replace b4 := x24.get b4
  simp only [k1, k2, b3, b4, b5, splice, coreS, Value.cells, Value.oneCell', Nat.reduceAdd, Nat.reduceSub, Nat.reduceMul, Nat.reduceLeDiff, Int.reduceEq, Nat.reduceEqDiff, H32Fs19]
  refine WP_cut [43, 44, 151, 152, 153, 154, 155, 156] (fun g h' => (∃ b, g 43 = .pointer (some ⟨b, 0, none⟩) ∧ h'[b]? = some (.cells #[.int .i64 (6), .int .i64 (7)] 54)) ∧ g 44 = .int .i64 0 ∧ Ext h24 h') ?_ ?_
  · refine WP_tree (by kernel_rfl) sta_ext (.quiet 0 (.quiet 1 (.quiet 2 (.quiet 3 (.quiet 4 (.pure 5 (.keep 6 (.one 7 (.quiet 8 (.fin)))))))))) (by kernel_rfl) rfl (by kernel_rfl) ?_
    simp only [k1, k2, b3, b4, b5, splice, coreS, Value.cells, Value.oneCell', Nat.reduceAdd, Nat.reduceSub, Nat.reduceMul, Nat.reduceLeDiff, Int.reduceEq, Nat.reduceEqDiff, drawS, treeS, H32Fs19]
    refine cQ_ext _ (fun h' x' => CallsH.mono (to49 2 3 h') fun v h'' q => ⟨q.1, q.2⟩) ?_
    simp only [rgV, k1, k2, b3, b4, b5, splice, coreS, Value.cells, Value.oneCell', Nat.reduceAdd, Nat.reduceSub, Nat.reduceMul, Nat.reduceLeDiff, Int.reduceEq, Nat.reduceEqDiff, drawS, treeS, H32Fs19]
    refine cQ_ext _ (fun h' x' => CallsH.mono (runAll41 (goodM g1) 2 3 ⟨#[99, 99]⟩ h' (ok1.ext x') (by decide)) fun v h'' q => ⟨q.1, q.2⟩) ?_
    simp only [(v19 g1).1, (v19 g1).2, spV, splice, coreS, Value.cells, Value.oneCell', Nat.reduceAdd, Nat.reduceSub, Nat.reduceMul, Nat.reduceLeDiff, Int.reduceEq, Nat.reduceEqDiff, drawS, treeS, H32Fs19]
    refine execT_keep fun hA xA => ?_
    simp only [splice, coreS, Value.cells, Value.oneCell', Nat.reduceAdd, Nat.reduceSub, Nat.reduceMul, Nat.reduceLeDiff, Int.reduceEq, Nat.reduceEqDiff, drawS, treeS, H32Fs19]
    refine ⟨(Ext.refl hA).push _, ?_⟩
    refine execT_one fun hB xB => ?_
    have tB := xB.get (push_new (h := hA))
    simp only [tB, splice, coreS, Value.cells, Value.oneCell', Nat.reduceAdd, Nat.reduceSub, Nat.reduceMul, Nat.reduceLeDiff, Int.reduceEq, Nat.reduceEqDiff, drawS, treeS, H32Fs19]
    refine stK_abs tB (by simp) fun hC gC uC => ?_
    simp only [splice] at gC
    have xx : Ext hA hC := uC.ext xB.of_push (Nat.le_refl _)
    try simp only [coreS, Value.cells, Value.oneCell', Nat.reduceAdd, Nat.reduceSub, Nat.reduceMul, Nat.reduceLeDiff, Int.reduceEq, Nat.reduceEqDiff, drawS, treeS, H32Fs19]
    refine execT_fin fun hD xD => ?_
    simp only [coreS, Value.cells, Value.oneCell', Nat.reduceAdd, Nat.reduceSub, Nat.reduceMul, Nat.reduceLeDiff, Int.reduceEq, Nat.reduceEqDiff, H32Fs19]
    exact midK_mk (by kernel_rfl) ⟨⟨hA.size, rfl, xD.get gC⟩, rfl, (xA.trans xx).trans xD⟩
  rintro f19 h25 ⟨⟨b19_, f19a, b19⟩, f19b, x25⟩
  replace k1 := x25.get k1
  replace k2 := x25.get k2
  replace ok1 := ok1.ext x25
  replace ok2 := ok2.ext x25
  replace y := y.trans x25
  replace I1 := I1.ext x25
  replace I2 := I2.ext x25
  replace b3 := x25.get b3
  replace b4 := x25.get b4
  replace b5 := x25.get b5
  simp only [k1, k2, b3, b4, b5, b19, f19a, f19b, splice, coreS, Value.cells, Value.oneCell', Nat.reduceAdd, Nat.reduceSub, Nat.reduceMul, Nat.reduceLeDiff, Int.reduceEq, Nat.reduceEqDiff, H32Fs19]
  refine WP_cut [45, 46, 157, 158, 159, 160, 161, 162] (fun g h' => (∃ b, g 45 = .pointer (some ⟨b, 0, none⟩) ∧ h'[b]? = some (.cells #[.int .i64 (((raV (goodM g1) 3 4 ⟨#[99, 99]⟩).1 : Nat) : Int), .int .i64 (((raV (goodM g1) 3 4 ⟨#[99, 99]⟩).2 : Nat) : Int)] 54)) ∧ g 46 = .int .i64 22 ∧ Ext h25 h') ?_ ?_
  · refine WP_tree (by kernel_rfl) sta_ext (.quiet 0 (.quiet 1 (.quiet 2 (.quiet 3 (.quiet 4 (.pure 5 (.keep 6 (.one 7 (.quiet 8 (.fin)))))))))) (by kernel_rfl) rfl (by kernel_rfl) ?_
    simp only [k1, k2, b3, b4, b5, b19, splice, coreS, Value.cells, Value.oneCell', Nat.reduceAdd, Nat.reduceSub, Nat.reduceMul, Nat.reduceLeDiff, Int.reduceEq, Nat.reduceEqDiff, drawS, treeS, H32Fs19]
    refine cQ_ext _ (fun h' x' => CallsH.mono (to49 3 4 h') fun v h'' q => ⟨q.1, q.2⟩) ?_
    simp only [rgV, k1, k2, b3, b4, b5, b19, splice, coreS, Value.cells, Value.oneCell', Nat.reduceAdd, Nat.reduceSub, Nat.reduceMul, Nat.reduceLeDiff, Int.reduceEq, Nat.reduceEqDiff, drawS, treeS, H32Fs19]
    refine cQ_ext _ (fun h' x' => CallsH.mono (runAll41 (goodM g1) 3 4 ⟨#[99, 99]⟩ h' (ok1.ext x') (by decide)) fun v h'' q => ⟨q.1, q.2⟩) ?_
    simp only [v20 g1, spV, splice, coreS, Value.cells, Value.oneCell', Nat.reduceAdd, Nat.reduceSub, Nat.reduceMul, Nat.reduceLeDiff, Int.reduceEq, Nat.reduceEqDiff, drawS, treeS, H32Fs19]
    refine execT_keep fun hA xA => ?_
    simp only [splice, coreS, Value.cells, Value.oneCell', Nat.reduceAdd, Nat.reduceSub, Nat.reduceMul, Nat.reduceLeDiff, Int.reduceEq, Nat.reduceEqDiff, drawS, treeS, H32Fs19]
    refine ⟨(Ext.refl hA).push _, ?_⟩
    refine execT_one fun hB xB => ?_
    have tB := xB.get (push_new (h := hA))
    simp only [tB, splice, coreS, Value.cells, Value.oneCell', Nat.reduceAdd, Nat.reduceSub, Nat.reduceMul, Nat.reduceLeDiff, Int.reduceEq, Nat.reduceEqDiff, drawS, treeS, H32Fs19]
    refine stK_abs tB (by simp) fun hC gC uC => ?_
    simp only [splice] at gC
    have xx : Ext hA hC := uC.ext xB.of_push (Nat.le_refl _)
    try simp only [coreS, Value.cells, Value.oneCell', Nat.reduceAdd, Nat.reduceSub, Nat.reduceMul, Nat.reduceLeDiff, Int.reduceEq, Nat.reduceEqDiff, drawS, treeS, H32Fs19]
    refine execT_fin fun hD xD => ?_
    simp only [coreS, Value.cells, Value.oneCell', Nat.reduceAdd, Nat.reduceSub, Nat.reduceMul, Nat.reduceLeDiff, Int.reduceEq, Nat.reduceEqDiff, H32Fs19]
    exact midK_mk (by kernel_rfl) ⟨⟨hA.size, rfl, xD.get gC⟩, rfl, (xA.trans xx).trans xD⟩
  rintro f20 h26 ⟨⟨b20_, f20a, b20⟩, f20b, x26⟩
  replace k1 := x26.get k1
  replace k2 := x26.get k2
  replace ok1 := ok1.ext x26
  replace ok2 := ok2.ext x26
  replace y := y.trans x26
  replace I1 := I1.ext x26
  replace I2 := I2.ext x26
  replace b3 := x26.get b3
  replace b4 := x26.get b4
  replace b5 := x26.get b5
  replace b19 := x26.get b19
  simp only [k1, k2, b3, b4, b5, b19, b20, f20a, f20b, splice, coreS, Value.cells, Value.oneCell', Nat.reduceAdd, Nat.reduceSub, Nat.reduceMul, Nat.reduceLeDiff, Int.reduceEq, Nat.reduceEqDiff, H32Fs19]
  refine WP_cut [47, 48, 163, 164, 165, 166, 167, 168] (fun g h' => g 47 = .string ⟨#[99, 99]⟩ ∧ g 48 = .int .i64 0 ∧ Ext h26 h') ?_ ?_
  · refine WP_tree (by kernel_rfl) sta_ext (.quiet 0 (.quiet 1 (.quiet 2 (.quiet 3 (.quiet 4 (.quiet 5 (.quiet 6 (.quiet 7 (.fin))))))))) (by kernel_rfl) rfl (by kernel_rfl) ?_
    simp only [k1, k2, b3, b4, b5, b19, b20, splice, coreS, Value.cells, Value.oneCell', Nat.reduceAdd, Nat.reduceSub, Nat.reduceMul, Nat.reduceLeDiff, Int.reduceEq, Nat.reduceEqDiff, drawS, treeS, H32Fs19]
    refine cQ_ext _ (fun h' x' => CallsH.mono (to49 2 3 h') fun v h'' q => ⟨q.1, q.2⟩) ?_
    simp only [rgV, k1, k2, b3, b4, b5, b19, b20, splice, coreS, Value.cells, Value.oneCell', Nat.reduceAdd, Nat.reduceSub, Nat.reduceMul, Nat.reduceLeDiff, Int.reduceEq, Nat.reduceEqDiff, drawS, treeS, H32Fs19]
    refine cQ_ext _ (fun h' x' => CallsH.mono (surely43 (goodM g1) 2 3 2 h' (ok1.ext x')) fun v h'' q => ⟨q.1, q.2⟩) ?_
    simp only [(v21 g1).1, (v21 g1).2, splice, coreS, Value.cells, Value.oneCell', Nat.reduceAdd, Nat.reduceSub, Nat.reduceMul, Nat.reduceLeDiff, Int.reduceEq, Nat.reduceEqDiff, drawS, treeS, H32Fs19]
    refine execT_fin fun hD xD => ?_
    simp only [coreS, Value.cells, Value.oneCell', Nat.reduceAdd, Nat.reduceSub, Nat.reduceMul, Nat.reduceLeDiff, Int.reduceEq, Nat.reduceEqDiff, H32Fs19]
    exact midK_mk (by kernel_rfl) ⟨rfl, rfl, xD⟩
  rintro f21 h27 ⟨f21a, f21b, x27⟩
  replace k1 := x27.get k1
  replace k2 := x27.get k2
  replace ok1 := ok1.ext x27
  replace ok2 := ok2.ext x27
  replace y := y.trans x27
  replace I1 := I1.ext x27
  replace I2 := I2.ext x27
  replace b3 := x27.get b3
  replace b4 := x27.get b4
  replace b5 := x27.get b5
  replace b19 := x27.get b19
  replace b20 := x27.get b20
  simp only [k1, k2, b3, b4, b5, b19, b20, f21a, f21b, splice, coreS, Value.cells, Value.oneCell', Nat.reduceAdd, Nat.reduceSub, Nat.reduceMul, Nat.reduceLeDiff, Int.reduceEq, Nat.reduceEqDiff, H32Fs19]
  refine WP_cut [49, 50, 169, 170, 171, 172, 173, 174] (fun g h' => g 49 = .string (suP (goodM g1) 1 3 1) ∧ g 50 = .int .i64 22 ∧ Ext h27 h') ?_ ?_
  · refine WP_tree (by kernel_rfl) sta_ext (.quiet 0 (.quiet 1 (.quiet 2 (.quiet 3 (.quiet 4 (.quiet 5 (.quiet 6 (.quiet 7 (.fin))))))))) (by kernel_rfl) rfl (by kernel_rfl) ?_
    simp only [k1, k2, b3, b4, b5, b19, b20, splice, coreS, Value.cells, Value.oneCell', Nat.reduceAdd, Nat.reduceSub, Nat.reduceMul, Nat.reduceLeDiff, Int.reduceEq, Nat.reduceEqDiff, drawS, treeS, H32Fs19]
    refine cQ_ext _ (fun h' x' => CallsH.mono (to49 1 3 h') fun v h'' q => ⟨q.1, q.2⟩) ?_
    simp only [rgV, k1, k2, b3, b4, b5, b19, b20, splice, coreS, Value.cells, Value.oneCell', Nat.reduceAdd, Nat.reduceSub, Nat.reduceMul, Nat.reduceLeDiff, Int.reduceEq, Nat.reduceEqDiff, drawS, treeS, H32Fs19]
    refine cQ_ext _ (fun h' x' => CallsH.mono (surely43 (goodM g1) 1 3 1 h' (ok1.ext x')) fun v h'' q => ⟨q.1, q.2⟩) ?_
    simp only [v22 g1, splice, coreS, Value.cells, Value.oneCell', Nat.reduceAdd, Nat.reduceSub, Nat.reduceMul, Nat.reduceLeDiff, Int.reduceEq, Nat.reduceEqDiff, drawS, treeS, H32Fs19]
    refine execT_fin fun hD xD => ?_
    simp only [coreS, Value.cells, Value.oneCell', Nat.reduceAdd, Nat.reduceSub, Nat.reduceMul, Nat.reduceLeDiff, Int.reduceEq, Nat.reduceEqDiff, H32Fs19]
    exact midK_mk (by kernel_rfl) ⟨rfl, rfl, xD⟩
  rintro f22 h28 ⟨f22a, f22b, x28⟩
  replace k1 := x28.get k1
  replace k2 := x28.get k2
  replace ok1 := ok1.ext x28
  replace ok2 := ok2.ext x28
  replace y := y.trans x28
  replace I1 := I1.ext x28
  replace I2 := I2.ext x28
  replace b3 := x28.get b3
  replace b4 := x28.get b4
  replace b5 := x28.get b5
  replace b19 := x28.get b19
  replace b20 := x28.get b20
  simp only [k1, k2, b3, b4, b5, b19, b20, f22a, f22b, splice, coreS, Value.cells, Value.oneCell', Nat.reduceAdd, Nat.reduceSub, Nat.reduceMul, Nat.reduceLeDiff, Int.reduceEq, Nat.reduceEqDiff, H32Fs19]
  refine WP_cut [51, 52, 175, 176, 177, 178, 179, 180] (fun g h' => g 51 = .string (suP (goodM g1) 7 8 1) ∧ g 52 = .int .i64 3 ∧ Ext h28 h') ?_ ?_
  · refine WP_tree (by kernel_rfl) sta_ext (.quiet 0 (.quiet 1 (.quiet 2 (.quiet 3 (.quiet 4 (.quiet 5 (.quiet 6 (.quiet 7 (.fin))))))))) (by kernel_rfl) rfl (by kernel_rfl) ?_
    simp only [k1, k2, b3, b4, b5, b19, b20, splice, coreS, Value.cells, Value.oneCell', Nat.reduceAdd, Nat.reduceSub, Nat.reduceMul, Nat.reduceLeDiff, Int.reduceEq, Nat.reduceEqDiff, drawS, treeS, H32Fs19]
    refine cQ_ext _ (fun h' x' => CallsH.mono (to49 7 8 h') fun v h'' q => ⟨q.1, q.2⟩) ?_
    simp only [rgV, k1, k2, b3, b4, b5, b19, b20, splice, coreS, Value.cells, Value.oneCell', Nat.reduceAdd, Nat.reduceSub, Nat.reduceMul, Nat.reduceLeDiff, Int.reduceEq, Nat.reduceEqDiff, drawS, treeS, H32Fs19]
    refine cQ_ext _ (fun h' x' => CallsH.mono (surely43 (goodM g1) 7 8 1 h' (ok1.ext x')) fun v h'' q => ⟨q.1, q.2⟩) ?_
    simp only [v23 g1, splice, coreS, Value.cells, Value.oneCell', Nat.reduceAdd, Nat.reduceSub, Nat.reduceMul, Nat.reduceLeDiff, Int.reduceEq, Nat.reduceEqDiff, drawS, treeS, H32Fs19]
    refine execT_fin fun hD xD => ?_
    simp only [coreS, Value.cells, Value.oneCell', Nat.reduceAdd, Nat.reduceSub, Nat.reduceMul, Nat.reduceLeDiff, Int.reduceEq, Nat.reduceEqDiff, H32Fs19]
    exact midK_mk (by kernel_rfl) ⟨rfl, rfl, xD⟩
  rintro f23 h29 ⟨f23a, f23b, x29⟩
  replace k1 := x29.get k1
  replace k2 := x29.get k2
  replace ok1 := ok1.ext x29
  replace ok2 := ok2.ext x29
  replace y := y.trans x29
  replace I1 := I1.ext x29
  replace I2 := I2.ext x29
  replace b3 := x29.get b3
  replace b4 := x29.get b4
  replace b5 := x29.get b5
  replace b19 := x29.get b19
  replace b20 := x29.get b20
  simp only [k1, k2, b3, b4, b5, b19, b20, f23a, f23b, splice, coreS, Value.cells, Value.oneCell', Nat.reduceAdd, Nat.reduceSub, Nat.reduceMul, Nat.reduceLeDiff, Int.reduceEq, Nat.reduceEqDiff, H32Fs19]
  clear hL hR2 f1a f1b f19a f19b f20a f20b f21a f21b f22a f22b f23a f23b u18 u20 u24 e1 e2
  refine execR_quiet [181, 182, 183, 184, 185, 186, 187, 188, 189, 190, 191, 192, 193, 194, 195, 196, 197, 198, 199, 200, 201, 202, 203, 204, 205, 206, 207, 208, 209, 210, 211, 212, 213, 214, 215, 216, 217, 218, 219, 220, 221, 222, 223, 224, 225, 226, 227, 228, 229, 230, 231, 232, 233, 234, 235, 236, 237, 238, 239, 240, 241, 242, 243, 244, 245, 246, 247, 248, 249, 250, 251, 252, 253, 254, 255, 256, 257, 258, 259, 260, 261, 262, 263, 264, 265, 266, 267, 268, 269, 270] (by kernel_rfl) (by kernel_rfl) fun g hg => ?_
  have f24 : g 270 = .bool false := by rw [hg]; kernel_rfl
  clear hg
  simp only [k1, k2, b3, b4, b5, b19, b20, f24, splice, coreS, Value.cells, Value.oneCell', Nat.reduceAdd, Nat.reduceSub, Nat.reduceMul, Nat.reduceLeDiff, Int.reduceEq, Nat.reduceEqDiff, H32Fs19]
  have hcr := ckr_of (m := goodM g1) (x := 3) (p := p) (q := q) (u := u) (opn_one g1 (by decide)) hp1 hp2 hp3 (run_lt good_ok (by decide) hp1) (by omega) (by omega)
  refine CallsH.mono (ckr36 (goodM g1) 3 (planS p) (planS q) _ ok1 (by rw [planS_size]; omega) (by rw [planS_size]; omega)) ?_
  rintro v h30 ⟨rfl, x30⟩
  replace k1 := x30.get k1
  replace k2 := x30.get k2
  replace ok1 := ok1.ext x30
  replace ok2 := ok2.ext x30
  replace y := y.trans x30
  replace I1 := I1.ext x30
  replace I2 := I2.ext x30
  replace b3 := x30.get b3
  replace b4 := x30.get b4
  replace b5 := x30.get b5
  replace b19 := x30.get b19
  replace b20 := x30.get b20
  simp only [k1, k2, b3, b4, b5, b19, b20, hcr.1, ratV, splice, coreS, Value.cells, Value.oneCell', Nat.reduceAdd, Nat.reduceSub, Nat.reduceMul, Nat.reduceLeDiff, Int.reduceEq, Nat.reduceEqDiff, H32Fs19]
  refine stK_abs push_new (by simp) fun h31 g31 u31 => ?_
  have x31 : Ext h30 h31 := u31.ext ((Ext.refl h30).push _) (Nat.le_refl _)
  replace k1 := x31.get k1
  replace k2 := x31.get k2
  replace ok1 := ok1.ext x31
  replace ok2 := ok2.ext x31
  replace y := y.trans x31
  replace I1 := I1.ext x31
  replace I2 := I2.ext x31
  replace b3 := x31.get b3
  replace b4 := x31.get b4
  replace b5 := x31.get b5
  replace b19 := x31.get b19
  replace b20 := x31.get b20
  simp only [k1, k2, b3, b4, b5, b19, b20, splice, coreS, Value.cells, Value.oneCell', Nat.reduceAdd, Nat.reduceSub, Nat.reduceMul, Nat.reduceLeDiff, Int.reduceEq, Nat.reduceEqDiff, H32Fs19]
  refine WP_tree (by kernel_rfl) sta_ext (.quiet 0 (.quiet 1 (.quiet 2 (.quiet 3 (.quiet 4 (.quiet 5 (.quiet 6 (.quiet 7 (.quiet 8 (.quiet 9 (.quiet 10 (.quiet 11 (.quiet 12 (.quiet 13 (.quiet 14 (.quiet 15 (.quiet 16 (.quiet 17 (.quiet 18 (.quiet 19 (.keep 20 (.quiet 21 (.quiet 22 (.quiet 23 (.quiet 24 (.quiet 25 (.keep 26 (.quiet 27 (.quiet 28 (.quiet 29 (.quiet 30 (.quiet 31 (.quiet 32 (.quiet 33 (.quiet 34 (.quiet 35 (.quiet 36 (.quiet 37 (.quiet 38 (.quiet 39 (.quiet 40 (.quiet 41 (.quiet 42 (.quiet 43 (.quiet 44 (.quiet 45 (.quiet 46 (.quiet 47 (.quiet 48 (.quiet 49 (.quiet 50 (.quiet 51 (.quiet 52 (.quiet 53 (.fin))))))))))))))))))))))))))))))))))))))))))))))))))))))) (by kernel_rfl) rfl (by kernel_rfl) ?_
  simp only [k1, k2, b3, b4, b5, b19, b20, splice, decide_true, coreS, Value.cells, Value.oneCell', Nat.reduceAdd, Nat.reduceSub, Nat.reduceMul, Nat.reduceLeDiff, Int.reduceEq, Nat.reduceEqDiff, drawS, treeS, H32Fs19]
  have hx31 := y.size
  refine execT_keep fun hA xA => ?_
  simp only [splice, coreS, Value.cells, Value.oneCell', Nat.reduceAdd, Nat.reduceSub, Nat.reduceMul, Nat.reduceLeDiff, Int.reduceEq, Nat.reduceEqDiff, drawS, treeS, H32Fs19]
  refine ⟨(Ext.refl hA).push _, ?_⟩
  refine cQ_ext _ (fun h' x' => CallsH.mono (of54 _ h') fun v h'' q => ⟨q.1, by rw [q.2]; exact Ext.refl _⟩) ?_
  simp only [coreS, Value.cells, Value.oneCell', Nat.reduceAdd, Nat.reduceSub, Nat.reduceMul, Nat.reduceLeDiff, Int.reduceEq, Nat.reduceEqDiff, drawS, treeS, H32Fs19]
  refine cQ_ext _ (fun h' x' => CallsH.mono (ints32 a1 (some ⟨hA.size, 0, none⟩) _ _ 8 8 _ [0, 0, -1, -1, -1, -1, -1, -1] h' (I1.ext ((xA.push _).trans x')) (IntsV.block (xs := [0, 0, -1, -1, -1, -1, -1, -1]) (x'.get push_new)) (by show (8 : Nat) ≤ _; omega) (by omega)) fun v h'' q => ⟨q.1, by rw [q.2]; exact Ext.refl _⟩) ?_
  simp only [decide_true, coreS, Value.cells, Value.oneCell', Nat.reduceAdd, Nat.reduceSub, Nat.reduceMul, Nat.reduceLeDiff, Int.reduceEq, Nat.reduceEqDiff, drawS, treeS, H32Fs19]
  refine execT_keep fun hB xB => ?_
  simp only [splice, coreS, Value.cells, Value.oneCell', Nat.reduceAdd, Nat.reduceSub, Nat.reduceMul, Nat.reduceLeDiff, Int.reduceEq, Nat.reduceEqDiff, drawS, treeS, H32Fs19]
  refine ⟨(Ext.refl hB).push _, ?_⟩
  refine cQ_ext _ (fun h' x' => CallsH.mono (of54 _ h') fun v h'' q => ⟨q.1, by rw [q.2]; exact Ext.refl _⟩) ?_
  simp only [coreS, Value.cells, Value.oneCell', Nat.reduceAdd, Nat.reduceSub, Nat.reduceMul, Nat.reduceLeDiff, Int.reduceEq, Nat.reduceEqDiff, drawS, treeS, H32Fs19]
  refine cQ_ext _ (fun h' x' => CallsH.mono (ints32 a2 (some ⟨hB.size, 0, none⟩) _ _ 8 8 _ [0, 0, 0, 0, 1, 1, 0, 0] h' (I2.ext ((((xA.push _).trans xB).push _).trans x')) (IntsV.block (xs := [0, 0, 0, 0, 1, 1, 0, 0]) (x'.get push_new)) (by show (8 : Nat) ≤ _; omega) (by omega)) fun v h'' q => ⟨q.1, by rw [q.2]; exact Ext.refl _⟩) ?_
  obtain ⟨hF, hhF⟩ : ∃ hF, hF = hB.push (.cells (Eng.ints [0, 0, 0, 0, 1, 1, 0, 0]).toArray 3) := ⟨_, rfl⟩
  have xF : Ext h31 hF := by rw [hhF]; exact ((xA.push _).trans xB).push _
  have b3F := xF.get b3
  have b5F := xF.get b5
  have b19F := xF.get b19
  simp only [Eng.ints, List.map] at hhF
  rw [← hhF]
  simp only [decide_true, b3F, b5F, b19F, splice, coreS, Value.cells, Value.oneCell', Nat.reduceAdd, Nat.reduceSub, Nat.reduceMul, Nat.reduceLeDiff, Int.reduceEq, Nat.reduceEqDiff, drawS, treeS, H32Fs19]
  refine cQ_ext _ (fun h' x' => CallsH.mono (by55 1 1 h') fun v h'' q => ⟨q.1, q.2⟩) ?_
  simp only [coreS, Value.cells, Value.oneCell', Nat.reduceAdd, Nat.reduceSub, Nat.reduceMul, Nat.reduceLeDiff, Int.reduceEq, Nat.reduceEqDiff, drawS, treeS, H32Fs19]
  refine eq2Q (u := 45) (b := true) (by kernel_rfl) (xs := [((1 : Nat) : Int), ((1 : Nat) : Int)]) (ys := [1, 1]) rfl rfl rfl rfl (by decide) ?_
  simp only [b3F, b5F, b19F, splice, decide_true, coreS, Value.cells, Value.oneCell', Nat.reduceAdd, Nat.reduceSub, Nat.reduceMul, Nat.reduceLeDiff, Int.reduceEq, Nat.reduceEqDiff, drawS, treeS, H32Fs19]
  refine eq2Q (u := 45) (b := true) (by kernel_rfl) (xs := [((1 : Nat) : Int), ((1 : Nat) : Int)]) (ys := [((1 : Nat) : Int), ((1 : Nat) : Int)]) rfl rfl rfl rfl (by decide) ?_
  simp only [b3F, b5F, b19F, splice, decide_true, coreS, Value.cells, Value.oneCell', Nat.reduceAdd, Nat.reduceSub, Nat.reduceMul, Nat.reduceLeDiff, Int.reduceEq, Nat.reduceEqDiff, drawS, treeS, H32Fs19]
  refine cQ_ext _ (fun h' x' => CallsH.mono (to49 6 7 h') fun v h'' q => ⟨q.1, q.2⟩) ?_
  simp only [rgV, coreS, Value.cells, Value.oneCell', Nat.reduceAdd, Nat.reduceSub, Nat.reduceMul, Nat.reduceLeDiff, Int.reduceEq, Nat.reduceEqDiff, drawS, treeS, H32Fs19]
  refine eq2Q (u := 54) (b := true) (by kernel_rfl) (xs := [6, 7]) (ys := [6, 7]) rfl rfl rfl rfl (by decide) ?_
  simp only [b3F, b5F, b19F, splice, decide_true, coreS, Value.cells, Value.oneCell', Nat.reduceAdd, Nat.reduceSub, Nat.reduceMul, Nat.reduceLeDiff, Int.reduceEq, Nat.reduceEqDiff, drawS, treeS, H32Fs19]
  refine execT_fin fun hD xD => ?_
  simp only [decide_true, coreS, Value.cells, Value.oneCell', Nat.reduceAdd, Nat.reduceSub, Nat.reduceMul, Nat.reduceLeDiff, Int.reduceEq, Nat.reduceEqDiff, H32Fs19]
  exact y.trans (xF.trans xD)
end Go.Proofs.YtafemfjhflfdeaaDoor
end
section
set_option linter.unusedVariables false
set_option linter.unusedSimpArgs false
namespace Go.Eng
open Go
def cmpO : BinOp → Int → Int → Option Bool
  | .eql, a, b => some (decide (a = b))
  | .neq, a, b => some (!decide (a = b))
  | .lss, a, b => some (decide (a < b))
  | .leq, a, b => some (decide (a ≤ b))
  | .gtr, a, b => some (decide (b < a))
  | .geq, a, b => some (decide (b ≤ a))
  | _, _, _ => none
def cmpS : BinOp → ByteArray → ByteArray → Option Bool
  | .eql, a, b => some (decide (a = b))
  | .neq, a, b => some (!decide (a = b))
  | _, _, _ => none
def cmpV (op : BinOp) : Value → Value → Option Bool
  | .int k a, .int k' b => if k = k' then cmpO op a b else none
  | .string s, .string t => cmpS op s t
  | _, _ => none
def pureQ (e : Env) : Op → Option Value
  | .move x => some (ev e x)
  | .assign x => some (ev e x)
  | .pick c a b => match ev e c with
    | .bool true => some (ev e a)
    | .bool false => some (ev e b)
    | _ => none
  | .binOp op _ x y _ => (cmpV op (ev e x) (ev e y)).map .bool
  | .unOp .not _ x => match ev e x with
    | .bool b => some (.bool (!b))
    | _ => none
  | .extract x i => match ev e x with
    | .tuple vs => vs[i]?
    | _ => none
  | _ => none
def evalT (all : List Oper) : Nat → PT → Env → Option (PT × Env)
  | 0, t, e => some (t, e)
  | n + 1, .quiet i r, e => match all[i]? with
    | none => none
    | some o => match o.guard with
      | none => (pureQ e o.op).bind fun v => evalT all n r (putE e o.dst v)
      | some (j, want) => match gslot all j with
        | none => none
        | some t => match e.getD t undef with
          | .bool b => if b = want then (pureQ e o.op).bind fun v => evalT all n r (putE e o.dst v) else evalT all n r (putE e o.dst undef)
          | .tuple _ => evalT all n r (putE e o.dst undef)
          | _ => none
  | _, _, _ => none
section pureR
variable {P : Program} {R : Heap → Heap → Prop} {k : Cont} {d : List Deferred} {h : Heap}
theorem cmpV_bin {op : BinOp} {x y : Value} {b : Bool} {K : Value → Heap → Prop} {F : Prop} (H : cmpV op x y = some b) (hK : K (.bool b) h) : binW op x y h K F := by
  unfold cmpV at H
  split at H
  · split at H
    · rename_i hk
      subst hk
      unfold binW
      unfold cmpO at H
      split at H <;> first | (cases H; done) | (cases H; simp only; unfold intW; first | exact ⟨rfl, hK⟩ | exact ⟨trivial, hK⟩)
    · cases H
  · unfold binW
    unfold cmpS at H
    split at H <;> first | (cases H; done) | (cases H; simp only; unfold strW; exact hK)
  · cases H
theorem pureQ_sound {e : Env} {o : Op} {v : Value} {ty : TypeId} {K : Value → Heap → Prop} (H : pureQ e o = some v) (hK : K v h) : opQW P R o ty e h K := by
  unfold pureQ at H
  unfold opQW
  split at H
  · cases H; exact hK
  · cases H; exact hK
  · split at H
    · rename_i hc; cases H; simp only [hc]; exact hK
    · rename_i hc; cases H; simp only [hc]; exact hK
    · cases H
  · obtain ⟨b, hb, rfl⟩ := Option.map_eq_some_iff.1 H
    exact cmpV_bin hb hK
  · split at H
    · rename_i hc; cases H; simp only [hc]; exact hK
    · cases H
  · split at H
    · rename_i hc
      simp only [hc]
      rw [H]
      unfold onV
      exact hK
    · cases H
  · cases H
theorem execT_eval {all : List Oper} {t' : PT} {e' : Env} : ∀ (n : Nat) (t : PT) (e : Env), evalT all n t e = some (t', e') → execT P R all t' k e' d h → execT P R all t k e d h
  | 0, t, e, H, hk => by
    unfold evalT at H
    cases H
    exact hk
  | n + 1, .quiet i r, e, H, hk => by
    unfold evalT at H
    unfold execT
    split at H
    · cases H
    · rename_i o ho
      simp only [ho]
      unfold guardW
      have plain : ((pureQ e o.op).bind fun v => evalT all n r (putE e o.dst v)) = some (t', e') → opQW P R o.op o.type e h (fun v h' => execT P R all r k (putE e o.dst v) d h') := fun H => by
        obtain ⟨v, h1, h2⟩ := Option.bind_eq_some_iff.1 H
        exact pureQ_sound h1 (execT_eval n r _ h2 hk)
      split at H
      · rename_i hg
        simp only [hg]
        exact plain H
      · rename_i j want hg
        simp only [hg]
        split at H
        · cases H
        · rename_i t hs
          simp only [hs]
          split at H
          · rename_i b hb
            have ht : t < e.length := by
              rcases Nat.lt_or_ge t e.length with h | h
              · exact h
              · simp [List.getD, List.getElem?_eq_none h, undef] at hb
            have hset := set_bool_same hb ht
            rw [hb]
            unfold boolW
            have key : ∀ c, b = c → (if c = want then opQW P R o.op o.type (e.set t (.bool c)) h (fun v h' => execT P R all r k (putE (e.set t (.bool c)) o.dst v) d h') else execT P R all r k (putE (e.set t (.bool c)) o.dst undef) d h) := by
              rintro c rfl
              rw [hset]
              by_cases hw : b = want
              · rw [if_pos hw] at H ⊢; exact plain H
              · rw [if_neg hw] at H ⊢; exact execT_eval n r _ H hk
            exact ⟨fun hb => key true hb, fun hb => key false hb⟩
          · rename_i vs hb
            rw [hb]
            unfold boolW
            exact execT_eval n r _ H hk
          · cases H
  | n + 1, .fin, e, H, hk => by cases H
  | n + 1, .pure _ _, e, H, hk => by cases H
  | n + 1, .one _ _, e, H, hk => by cases H
  | n + 1, .keep _ _, e, H, hk => by cases H
  | n + 1, .fork _ _ _ _, e, H, hk => by cases H
  | n + 1, .fork2 _ _ _ _ _ _, e, H, hk => by cases H
  | n + 1, .fork3 _ _ _ _ _ _ _ _ _, e, H, hk => by cases H
def okQ (G : Nat → Bool) (all : List Oper) (i : Nat) (listed : Array Bool) : Bool :=
  (Region.ready .any all.toArray listed).contains i && blkOk all listed i (blk all listed i all.length 0 []) &&
      ((List.range all.length).all fun j => j == i || listed.getD j true || (blk all listed i all.length 0 []).contains j || (G j && (match all[i]?, all[j]? with | some oi, some oj => oi.apart all.toArray oj | _, _ => true)))
theorem okT_eq {G : Nat → Bool} {all : List Oper} {i : Nat} {r : PT} {listed : Array Bool} : okT G all (.quiet i r) listed = (okQ G all i listed && okT G all r (listed.setIfInBounds i true)) := by
  rw [okT]
  unfold okQ
  rfl
theorem okT_quiet {G : Nat → Bool} {all : List Oper} {i : Nat} {r : PT} {listed : Array Bool} (h1 : okQ G all i listed = true)
    (h2 : okT G all r (listed.setIfInBounds i true) = true) : okT G all (.quiet i r) listed = true := by
  rw [okT_eq, h1, h2]
  rfl
theorem execT_skip {all : List Oper} {t : PT} {e : Env} (n : Nat) (t' : PT) (ws : List Nat) (ht : (evalT all n t e).map (·.1) = some t') (hw : mkE e ws (fun i => (((evalT all n t e).map (·.2)).getD []).getD i undef) = ((evalT all n t e).map (·.2)).getD [])
    (H : ∀ g : Nat → Value, (g = fun i => (((evalT all n t e).map (·.2)).getD []).getD i undef) → execT P R all t' k (mkE e ws g) d h) : execT P R all t k e d h := by
  obtain ⟨⟨t1, e1⟩, he, rfl⟩ := Option.map_eq_some_iff.1 ht
  refine execT_eval n t e he ?_
  have := H _ rfl
  rw [hw, he] at this
  exact this
end pureR
end Go.Eng
end
section
set_option linter.unusedVariables false
set_option linter.unusedSimpArgs false
namespace Go.Eng
open Go Go.ChangeShapes Go.WideShapes Go.ChangeAt Go.RowKit
section rowkit
variable {P : Program} {H : Type} {enc : TypeId × Value → H}
theorem same_of {W W' : World} (x : Ext W.heap W'.heap) {p : MemPlace} (hp : p.block < W.heap.size) : W.sameAt W' p := by
  have h := x.old p.block hp
  cases p with
  | cell b o => exact World.cell?_of_block (w := W) h
  | map b => exact h
theorem trodAll_ext (hl : laidOutB P = true) {W W' : World} (x : Ext W.heap W'.heap) {sp : Nat → Bool} : ∀ {ts : List TypeId} {vs : List Value} {ds : List (DataW H)} {ps : List MemPlace},
    (ts.all fun t => P.readableRec t && decide (t < P.types.size)) = true → DataW.TrodAll enc P W 0 (fun _ => true) true ts vs ds ps → (∀ p ∈ ps, p.block < W.heap.size) → (∀ p ∈ ps, sp p.block = true) → DataW.TrodAll enc P W' 0 sp true ts vs ds ps
  | [], [], [], ps, _, h, _, _ => h
  | t :: ts, v :: vs, d :: ds, ps, ht, ⟨p, q, h1, h2, he⟩, hb, hs => by
    subst he
    simp only [List.all_cons, Bool.and_eq_true, decide_eq_true_eq] at ht
    exact ⟨p, q, WideElems.Trod_stays hl ht.1.1 ht.1.2 h1 (fun y hy => same_of x (hb y (by simp [hy]))) (fun y hy => hs y (by simp [hy])),
      trodAll_ext hl x (by simpa using ht.2) h2 (fun y hy => hb y (by simp [hy])) (fun y hy => hs y (by simp [hy])), rfl⟩
theorem calls_ext {f : FuncId} {args : Array Value} {W : World} {b : Bool} (hc : CallsH P f args W.heap (fun v h' => v = .bool b ∧ Ext W.heap h')) : Calls P f args W fun e W' => e = .returned (.bool b) ∧ Ext W.heap W'.heap ∧ Rest W W' := by
  unfold CallsH CallsW at hc
  refine Calls.mono (hc.2 W rfl) ?_
  rintro e W' ⟨v, rfl, ⟨rfl, x⟩, r⟩
  exact ⟨rfl, x, r⟩
end rowkit
end Go.Eng
end
