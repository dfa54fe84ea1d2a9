/- Walks: Works. -/
import Derived.Test.YtafemfjhflfdeaaDoorPB12
namespace Go.Proofs.YtafemfjhflfdeaaDoor
open Go Go.Proofs Go.Eng Go.Run Tab
set_option maxRecDepth 100000
set_option linter.unusedSimpArgs false
set_option linter.unusedVariables false
set_option linter.defProp false
set_option maxHeartbeats 8000000
set_option linter.defProp false
def H46Fs16 := (And.intro (And.intro (And.intro (And.intro @agg24 @agg45) (And.intro @agg54 @by3)) (And.intro (And.intro @inf24 @inf3) (And.intro @inf45 @inf54))) (And.intro (And.intro (And.intro @sz24 @sz3) (And.intro @sz45 @sz54)) (And.intro (And.intro @zero24 @zero3) (And.intro @zero45 (And.intro @zero54 @Tryd.underlying22)))))
theorem kv1 (g : Nat) : runE (goodM g) 0 ⟨#[119, 119]⟩ = 0 ∧ runA (goodM g) 0 ⟨#[119, 119]⟩ = 0 ∧ runK (goodM g) 0 ⟨#[119, 119]⟩ = 0 := by
  have : runE (goodM 0) 0 ⟨#[119, 119]⟩ = 0 ∧ runA (goodM 0) 0 ⟨#[119, 119]⟩ = 0 ∧ runK (goodM 0) 0 ⟨#[119, 119]⟩ = 0 := by decide +kernel
  exact this
theorem kv2 (g : Nat) : ceE (goodM g) 6 1 = 0 ∧ ceW (goodM g) 6 1 = 1 := by
  have : ceE (goodM 0) 6 1 = 0 ∧ ceW (goodM 0) 6 1 = 1 := by decide +kernel
  exact this
theorem kv3 (g : Nat) : ceE (goodM g) 6 0 = 0 ∧ ceP (goodM g) 6 0 = ⟨#[]⟩ := by
  have : ceE (goodM 0) 6 0 = 0 ∧ ceP (goodM 0) 6 0 = ⟨#[]⟩ := by decide +kernel
  exact this
theorem kv4 (g : Nat) : moE (goodM g) 0 = 0 ∧ moW (goodM g) 0 = 0 := by
  have h : moE (goodM g) 0 = 0 := by
    rw [moE, opn_one g (by decide), if_neg (by decide), show (0 : Int).toNat = 0 from rfl, mo_good g (by omega)]
    decide +kernel
  refine ⟨h, ?_⟩
  rw [moW, h, if_pos rfl, show (0 : Int).toNat = 0 from rfl, mo_good g (by omega)]
  decide +kernel
theorem kv5 (g : Nat) : moE (stuckM g) 7 = 0 ∧ moW (stuckM g) 7 = 0 := by
  have h : moE (stuckM g) 7 = 0 := by
    rw [moE, opn_one' g (by decide), if_neg (by decide), show (7 : Int).toNat = 7 from rfl, mo_stuck g (by omega)]
    decide +kernel
  refine ⟨h, ?_⟩
  rw [moW, h, if_pos rfl, show (7 : Int).toNat = 7 from rfl, mo_stuck g (by omega)]
  decide +kernel
theorem kv6 (g : Nat) : cklE (stuckM g) [0, 0, 0, 0, 0, 1, 0, 0] = 14 := by
  have : cklE (stuckM 0) [0, 0, 0, 0, 0, 1, 0, 0] = 14 := by decide +kernel
  exact this
theorem kv7 (g : Nat) : cklE (stuckM g) [-1, -1, 0, -1, -1, -1, -1, -1] = 14 := by
  have : cklE (stuckM 0) [-1, -1, 0, -1, -1, -1, -1, -1] = 14 := by decide +kernel
  exact this
theorem kv8 (g : Nat) : ckrE (goodM g) 3 ⟨#[]⟩ ⟨#[119]⟩ = 14 := by
  have : ckrE (goodM 0) 3 ⟨#[]⟩ ⟨#[119]⟩ = 14 := by decide +kernel
  exact this
theorem kv9 (g : Nat) : raE (goodM g) 2 3 ⟨#[99, 119]⟩ = 0 ∧ raV (goodM g) 2 3 ⟨#[99, 119]⟩ = (2, 3) := by
  have : raE (goodM 0) 2 3 ⟨#[99, 119]⟩ = 0 ∧ raV (goodM 0) 2 3 ⟨#[99, 119]⟩ = (2, 3) := by decide +kernel
  exact this
theorem kv10 (g : Nat) : suE (goodM g) 2 5 0 = 0 ∧ suP (goodM g) 2 5 0 = ⟨#[]⟩ := by
  have : suE (goodM 0) 2 5 0 = 0 ∧ suP (goodM 0) 2 5 0 = ⟨#[]⟩ := by decide +kernel
  exact this
theorem known16 (h : Eng.Heap) : CallsH Tryd.prog 16 #[] h (fun v h' => v = .bool true ∧ Ext h h') := by
  (refine CallsH_of_exec Tryd.func16 rfl bod16 ?_; simp only [Tryd.ntmps16, Tryd.results16, coreS, stK_some, splice, Value.cells, Value.oneCell', Nat.reduceAdd, Nat.reduceSub, Nat.reduceMul, Nat.reduceLeDiff, Int.reduceEq, Nat.reduceEqDiff, H46Fs16])
  refine CallsH.mono (good52 _) ?_
  rintro v h1 ⟨⟨g1, rfl, ok1⟩, x1⟩
  simp only [coreS, Value.cells, Value.oneCell', Nat.reduceAdd, Nat.reduceSub, Nat.reduceMul, Nat.reduceLeDiff, Int.reduceEq, Nat.reduceEqDiff, H46Fs16]
  refine CallsH.mono (stuck53 _) ?_
  rintro v h2 ⟨⟨g2, rfl, ok2⟩, x2⟩
  simp only [splice, coreS, Value.cells, Value.oneCell', Nat.reduceAdd, Nat.reduceSub, Nat.reduceMul, Nat.reduceLeDiff, Int.reduceEq, Nat.reduceEqDiff, H46Fs16]
  obtain ⟨c1, hc1⟩ : ∃ c, c = h2.size := ⟨_, rfl⟩
  have q0 := pn0 (h := h2) (o := .cells #[.slice none 0 0, .slice none 0 0, .int .i64 0, .int .i64 0] 24) (o' := .cells #[.slice none 0 0, .slice none 0 0, .int .i64 0, .int .i64 0] 24)
  have q1 := pn1 (h := h2) (o := .cells #[.slice none 0 0, .slice none 0 0, .int .i64 0, .int .i64 0] 24) (o' := .cells #[.slice none 0 0, .slice none 0 0, .int .i64 0, .int .i64 0] 24)
  have y0 : Ext h2 ((h2.push (.cells #[.slice none 0 0, .slice none 0 0, .int .i64 0, .int .i64 0] 24)).push (.cells #[.slice none 0 0, .slice none 0 0, .int .i64 0, .int .i64 0] 24)) := ((Ext.refl h2).push _).push _
  refine stK_abs q0 (by simp) fun h3 g3 u3 => ?_
  simp only [splice] at g3
  have k3 := u3.get q1 (by omega)
  simp only [k3, splice, coreS, Value.cells, Value.oneCell', Nat.reduceAdd, Nat.reduceSub, Nat.reduceMul, Nat.reduceLeDiff, Int.reduceEq, Nat.reduceEqDiff, H46Fs16]
  refine stK_abs k3 (by simp) fun h4 g4 u4 => ?_
  simp only [splice] at g4
  have k1 := u4.get g3 (by omega)
  have k2 := g4
  have y2 := u4.ext (u3.ext y0 (by omega)) (by omega)
  have y := (x1.trans x2).trans y2
  replace ok1 := (ok1.ext x2).ext y2
  replace ok2 := ok2.ext y2
  have e1 : (goodM g1).val = .agg #[.slice (goodM g1).a (goodM g1).casts.length (goodM g1).ca, .slice (goodM g1).b (goodM g1).waits.length (goodM g1).cb, .int .i64 (goodM g1).lo, .int .i64 (goodM g1).hi] := rfl
  have e2 : (stuckM g2).val = .agg #[.slice (stuckM g2).a (stuckM g2).casts.length (stuckM g2).ca, .slice (stuckM g2).b (stuckM g2).waits.length (stuckM g2).cb, .int .i64 (stuckM g2).lo, .int .i64 (stuckM g2).hi] := rfl
  clear q0 q1 y0 g3 g4 k3 u3 u4 x1 x2 y2
  rw [← hc1] at k1 k2
  simp only [← hc1]
  clear hc1
  simp only [k1, splice, coreS, Value.cells, Value.oneCell', Nat.reduceAdd, Nat.reduceSub, Nat.reduceMul, Nat.reduceLeDiff, Int.reduceEq, Nat.reduceEqDiff, H46Fs16]
  refine CallsH.mono (run20 (goodM g1) 0 ⟨#[119, 119]⟩ _ ok1 (by decide)) ?_
  rintro v h5 ⟨rfl, x5⟩
  replace k1 := x5.get k1
  replace k2 := x5.get k2
  replace ok1 := ok1.ext x5
  replace ok2 := ok2.ext x5
  replace y := y.trans x5
  simp only [k1, k2, (kv1 g1).1, (kv1 g1).2.1, (kv1 g1).2.2, splice, coreS, Value.cells, Value.oneCell', Nat.reduceAdd, Nat.reduceSub, Nat.reduceMul, Nat.reduceLeDiff, Int.reduceEq, Nat.reduceEqDiff, H46Fs16]
  refine CallsH.mono (fewest24 (goodM g1) 6 1 _ ok1) ?_
  rintro v h6 ⟨rfl, x6⟩
  replace k1 := x6.get k1
  replace k2 := x6.get k2
  replace ok1 := ok1.ext x6
  replace ok2 := ok2.ext x6
  replace y := y.trans x6
  simp only [k1, k2, (kv2 g1).1, (kv2 g1).2, splice, coreS, Value.cells, Value.oneCell', Nat.reduceAdd, Nat.reduceSub, Nat.reduceMul, Nat.reduceLeDiff, Int.reduceEq, Nat.reduceEqDiff, H46Fs16]
  refine CallsH.mono (plan26 (goodM g1) 6 0 _ ok1) ?_
  rintro v h7 ⟨rfl, x7⟩
  replace k1 := x7.get k1
  replace k2 := x7.get k2
  replace ok1 := ok1.ext x7
  replace ok2 := ok2.ext x7
  replace y := y.trans x7
  simp only [k1, k2, (kv3 g1).1, (kv3 g1).2, splice, coreS, Value.cells, Value.oneCell', Nat.reduceAdd, Nat.reduceSub, Nat.reduceMul, Nat.reduceLeDiff, Int.reduceEq, Nat.reduceEqDiff, H46Fs16]
  refine CallsH.mono (most28 (goodM g1) 0 _ ok1) ?_
  rintro v h8 ⟨rfl, x8⟩
  replace k1 := x8.get k1
  replace k2 := x8.get k2
  replace ok1 := ok1.ext x8
  replace ok2 := ok2.ext x8
  replace y := y.trans x8
  simp only [k1, k2, (kv4 g1).1, (kv4 g1).2, splice, coreS, Value.cells, Value.oneCell', Nat.reduceAdd, Nat.reduceSub, Nat.reduceMul, Nat.reduceLeDiff, Int.reduceEq, Nat.reduceEqDiff, H46Fs16]
  refine CallsH.mono (most28 (stuckM g2) 7 _ ok2) ?_
  rintro v h9 ⟨rfl, x9⟩
  replace k1 := x9.get k1
  replace k2 := x9.get k2
  replace ok1 := ok1.ext x9
  replace ok2 := ok2.ext x9
  replace y := y.trans x9
  simp only [k1, k2, (kv5 g2).1, (kv5 g2).2, splice, coreS, Value.cells, Value.oneCell', Nat.reduceAdd, Nat.reduceSub, Nat.reduceMul, Nat.reduceLeDiff, Int.reduceEq, Nat.reduceEqDiff, H46Fs16]
  refine WP_cut [14, 15, 50, 51, 52, 53, 54, 55, 56, 57] (fun g h' => g 14 = .int .i64 14 ∧ g 15 = .int .i64 14 ∧ Ext h9 h') ?_ ?_
  · refine WP_tree (by kernel_rfl) sta_ext (.quiet 0 (.quiet 4 (.fork 1 5 (.quiet 2 (.quiet 3 (.keep 5 (.quiet 6 (.quiet 7 (.quiet 8 (.quiet 9 (.fin)))))))) (.keep 1 (.quiet 2 (.quiet 3 (.quiet 6 (.quiet 7 (.quiet 8 (.quiet 9 (.fin))))))))))) (by kernel_rfl) rfl (by as_aux_lemma => kernel_rfl) ?_
    simp only [k1, k2, splice, coreS, Value.cells, Value.oneCell', Nat.reduceAdd, Nat.reduceSub, Nat.reduceMul, Nat.reduceLeDiff, Int.reduceEq, Nat.reduceEqDiff, drawS, treeS, H46Fs16]
    refine execT_fork fun hA xA => ⟨?_, ?_⟩
    · simp only [splice, coreS, Value.cells, Value.oneCell', Nat.reduceAdd, Nat.reduceSub, Nat.reduceMul, Nat.reduceLeDiff, Int.reduceEq, Nat.reduceEqDiff, drawS, treeS, H46Fs16]
      refine ⟨(Ext.refl hA).push _, ?_⟩
      refine cQ_ext _ (fun h' x' => CallsH.mono (of54 _ h') fun v h'' q => ⟨q.1, by rw [q.2]; exact Ext.refl _⟩) ?_
      simp only [k1, k2, coreS, Value.cells, Value.oneCell', Nat.reduceAdd, Nat.reduceSub, Nat.reduceMul, Nat.reduceLeDiff, Int.reduceEq, Nat.reduceEqDiff, drawS, treeS, H46Fs16]
      refine cQ_ext _ (fun h' x' => CallsH.mono (ckl33 (stuckM g2) (some ⟨hA.size, 0, none⟩) 8 8 [0, 0, 0, 0, 0, 1, 0, 0] h' (ok2.ext ((xA.push _).trans x')) (IntsV.block (xs := [0, 0, 0, 0, 0, 1, 0, 0]) (x'.get push_new)) (by omega)) fun v h'' q => ⟨q.1, q.2⟩) ?_
      simp only [kv6 g2, coreS, Value.cells, Value.oneCell', Nat.reduceAdd, Nat.reduceSub, Nat.reduceMul, Nat.reduceLeDiff, Int.reduceEq, Nat.reduceEqDiff, drawS, treeS, H46Fs16]
      refine execT_keep fun hB xB => ?_
      simp only [splice, coreS, Value.cells, Value.oneCell', Nat.reduceAdd, Nat.reduceSub, Nat.reduceMul, Nat.reduceLeDiff, Int.reduceEq, Nat.reduceEqDiff, drawS, treeS, H46Fs16]
      refine ⟨(Ext.refl hB).push _, ?_⟩
      refine cQ_ext _ (fun h' x' => CallsH.mono (of54 _ h') fun v h'' q => ⟨q.1, by rw [q.2]; exact Ext.refl _⟩) ?_
      simp only [k1, k2, coreS, Value.cells, Value.oneCell', Nat.reduceAdd, Nat.reduceSub, Nat.reduceMul, Nat.reduceLeDiff, Int.reduceEq, Nat.reduceEqDiff, drawS, treeS, H46Fs16]
      refine cQ_ext _ (fun h' x' => CallsH.mono (ckl33 (stuckM g2) (some ⟨hB.size, 0, none⟩) 8 8 [-1, -1, 0, -1, -1, -1, -1, -1] h' (ok2.ext ((((xA.push _).trans xB).push _).trans x')) (IntsV.block (xs := [-1, -1, 0, -1, -1, -1, -1, -1]) (x'.get push_new)) (by omega)) fun v h'' q => ⟨q.1, q.2⟩) ?_
      simp only [kv7 g2, coreS, Value.cells, Value.oneCell', Nat.reduceAdd, Nat.reduceSub, Nat.reduceMul, Nat.reduceLeDiff, Int.reduceEq, Nat.reduceEqDiff, drawS, treeS, H46Fs16]
      refine execT_fin fun hC xC => ?_
      simp only [coreS, Value.cells, Value.oneCell', Nat.reduceAdd, Nat.reduceSub, Nat.reduceMul, Nat.reduceLeDiff, Int.reduceEq, Nat.reduceEqDiff, H46Fs16]
      exact midK_mk (by kernel_rfl) ⟨rfl, rfl, (((xA.push _).trans xB).push _).trans xC⟩
    · simp only [splice, coreS, Value.cells, Value.oneCell', Nat.reduceAdd, Nat.reduceSub, Nat.reduceMul, Nat.reduceLeDiff, Int.reduceEq, Nat.reduceEqDiff, drawS, treeS, H46Fs16]
      refine ⟨(Ext.refl hA).push _, ?_⟩
      refine execT_keep fun hB xB => ?_
      simp only [splice, coreS, Value.cells, Value.oneCell', Nat.reduceAdd, Nat.reduceSub, Nat.reduceMul, Nat.reduceLeDiff, Int.reduceEq, Nat.reduceEqDiff, drawS, treeS, H46Fs16]
      refine ⟨(Ext.refl hB).push _, ?_⟩
      refine cQ_ext _ (fun h' x' => CallsH.mono (of54 _ h') fun v h'' q => ⟨q.1, by rw [q.2]; exact Ext.refl _⟩) ?_
      simp only [k1, k2, coreS, Value.cells, Value.oneCell', Nat.reduceAdd, Nat.reduceSub, Nat.reduceMul, Nat.reduceLeDiff, Int.reduceEq, Nat.reduceEqDiff, drawS, treeS, H46Fs16]
      refine cQ_ext _ (fun h' x' => CallsH.mono (ckl33 (stuckM g2) (some ⟨hB.size, 0, none⟩) 8 8 [0, 0, 0, 0, 0, 1, 0, 0] h' (ok2.ext ((((xA.push _).trans xB).push _).trans x')) (IntsV.block (xs := [0, 0, 0, 0, 0, 1, 0, 0]) (x'.get push_new)) (by omega)) fun v h'' q => ⟨q.1, q.2⟩) ?_
      simp only [kv6 g2, coreS, Value.cells, Value.oneCell', Nat.reduceAdd, Nat.reduceSub, Nat.reduceMul, Nat.reduceLeDiff, Int.reduceEq, Nat.reduceEqDiff, drawS, treeS, H46Fs16]
      refine cQ_ext _ (fun h' x' => CallsH.mono (of54 _ h') fun v h'' q => ⟨q.1, by rw [q.2]; exact Ext.refl _⟩) ?_
      simp only [k1, k2, coreS, Value.cells, Value.oneCell', Nat.reduceAdd, Nat.reduceSub, Nat.reduceMul, Nat.reduceLeDiff, Int.reduceEq, Nat.reduceEqDiff, drawS, treeS, H46Fs16]
      refine cQ_ext _ (fun h' x' => CallsH.mono (ckl33 (stuckM g2) (some ⟨hA.size, 0, none⟩) 8 8 [-1, -1, 0, -1, -1, -1, -1, -1] h' (ok2.ext ((((xA.push _).trans xB).push _).trans x')) (IntsV.block (xs := [-1, -1, 0, -1, -1, -1, -1, -1]) (x'.get (push_old (xB.get push_new)))) (by omega)) fun v h'' q => ⟨q.1, q.2⟩) ?_
      simp only [kv7 g2, coreS, Value.cells, Value.oneCell', Nat.reduceAdd, Nat.reduceSub, Nat.reduceMul, Nat.reduceLeDiff, Int.reduceEq, Nat.reduceEqDiff, drawS, treeS, H46Fs16]
      refine execT_fin fun hC xC => ?_
      simp only [coreS, Value.cells, Value.oneCell', Nat.reduceAdd, Nat.reduceSub, Nat.reduceMul, Nat.reduceLeDiff, Int.reduceEq, Nat.reduceEqDiff, H46Fs16]
      exact midK_mk (by kernel_rfl) ⟨rfl, rfl, (((xA.push _).trans xB).push _).trans xC⟩
  rintro f1 h10 ⟨f1a, f1b, x10⟩
  replace k1 := x10.get k1
  replace k2 := x10.get k2
  replace ok1 := ok1.ext x10
  replace ok2 := ok2.ext x10
  replace y := y.trans x10
  simp only [k1, k2, f1a, f1b, splice, coreS, Value.cells, Value.oneCell', Nat.reduceAdd, Nat.reduceSub, Nat.reduceMul, Nat.reduceLeDiff, Int.reduceEq, Nat.reduceEqDiff, H46Fs16]
  refine CallsH.mono (ckr35 (goodM g1) 3 ⟨#[]⟩ ⟨#[119]⟩ _ ok1 (by decide) (by decide)) ?_
  rintro v h11 ⟨rfl, x11⟩
  replace k1 := x11.get k1
  replace k2 := x11.get k2
  replace ok1 := ok1.ext x11
  replace ok2 := ok2.ext x11
  replace y := y.trans x11
  simp only [k1, k2, kv8 g1, ratV, splice, coreS, Value.cells, Value.oneCell', Nat.reduceAdd, Nat.reduceSub, Nat.reduceMul, Nat.reduceLeDiff, Int.reduceEq, Nat.reduceEqDiff, H46Fs16]
  refine stK_abs push_new (by simp) fun h12 b3 u12 => ?_
  simp only [splice] at b3
  have x12 : Ext h11 h12 := u12.ext ((Ext.refl h11).push _) (Nat.le_refl _)
  replace k1 := x12.get k1
  replace k2 := x12.get k2
  replace ok1 := ok1.ext x12
  replace ok2 := ok2.ext x12
  replace y := y.trans x12
  simp only [k1, k2, b3, splice, coreS, Value.cells, Value.oneCell', Nat.reduceAdd, Nat.reduceSub, Nat.reduceMul, Nat.reduceLeDiff, Int.reduceEq, Nat.reduceEqDiff, H46Fs16]
  refine WP_cut [18, 19, 63, 64, 65, 66, 67, 68] (fun g h' => (∃ b, g 18 = .pointer (some ⟨b, 0, none⟩) ∧ h'[b]? = some (.cells #[.int .i64 (2), .int .i64 (3)] 54)) ∧ g 19 = .int .i64 0 ∧ Ext h12 h') ?_ ?_
  · refine WP_tree (by kernel_rfl) sta_ext (.quiet 0 (.quiet 1 (.quiet 2 (.quiet 3 (.quiet 4 (.pure 5 (.keep 6 (.one 7 (.quiet 8 (.fin)))))))))) (by kernel_rfl) rfl (by as_aux_lemma => kernel_rfl) ?_
    simp only [k1, k2, b3, splice, coreS, Value.cells, Value.oneCell', Nat.reduceAdd, Nat.reduceSub, Nat.reduceMul, Nat.reduceLeDiff, Int.reduceEq, Nat.reduceEqDiff, drawS, treeS, H46Fs16]
    refine cQ_ext _ (fun h' x' => CallsH.mono (to49 2 3 h') fun v h'' q => ⟨q.1, q.2⟩) ?_
    simp only [rgV, k1, k2, b3, splice, coreS, Value.cells, Value.oneCell', Nat.reduceAdd, Nat.reduceSub, Nat.reduceMul, Nat.reduceLeDiff, Int.reduceEq, Nat.reduceEqDiff, drawS, treeS, H46Fs16]
    refine cQ_ext _ (fun h' x' => CallsH.mono (runAll41 (goodM g1) 2 3 ⟨#[99, 119]⟩ h' (ok1.ext x') (by decide)) fun v h'' q => ⟨q.1, q.2⟩) ?_
    simp only [(kv9 g1).1, (kv9 g1).2, spV, splice, coreS, Value.cells, Value.oneCell', Nat.reduceAdd, Nat.reduceSub, Nat.reduceMul, Nat.reduceLeDiff, Int.reduceEq, Nat.reduceEqDiff, drawS, treeS, H46Fs16]
    refine execT_keep fun hA xA => ?_
    simp only [splice, coreS, Value.cells, Value.oneCell', Nat.reduceAdd, Nat.reduceSub, Nat.reduceMul, Nat.reduceLeDiff, Int.reduceEq, Nat.reduceEqDiff, drawS, treeS, H46Fs16]
    refine ⟨(Ext.refl hA).push _, ?_⟩
    refine execT_one fun hB xB => ?_
    have tB := xB.get (push_new (h := hA))
    simp only [tB, splice, coreS, Value.cells, Value.oneCell', Nat.reduceAdd, Nat.reduceSub, Nat.reduceMul, Nat.reduceLeDiff, Int.reduceEq, Nat.reduceEqDiff, drawS, treeS, H46Fs16]
    refine stK_abs tB (by simp) fun hC gC uC => ?_
    simp only [splice] at gC
    have xx : Ext hA hC := uC.ext xB.of_push (Nat.le_refl _)
    try simp only [coreS, Value.cells, Value.oneCell', Nat.reduceAdd, Nat.reduceSub, Nat.reduceMul, Nat.reduceLeDiff, Int.reduceEq, Nat.reduceEqDiff, drawS, treeS, H46Fs16]
    refine execT_fin fun hD xD => ?_
    simp only [coreS, Value.cells, Value.oneCell', Nat.reduceAdd, Nat.reduceSub, Nat.reduceMul, Nat.reduceLeDiff, Int.reduceEq, Nat.reduceEqDiff, H46Fs16]
    exact midK_mk (by kernel_rfl) ⟨⟨hA.size, rfl, xD.get gC⟩, rfl, (xA.trans xx).trans xD⟩
  rintro f9 h13 ⟨⟨b9_, f9a, b9⟩, f9b, x13⟩
  replace k1 := x13.get k1
  replace k2 := x13.get k2
  replace ok1 := ok1.ext x13
  replace ok2 := ok2.ext x13
  replace y := y.trans x13
  replace b3 := x13.get b3
  simp only [k1, k2, b3, b9, f9a, f9b, splice, coreS, Value.cells, Value.oneCell', Nat.reduceAdd, Nat.reduceSub, Nat.reduceMul, Nat.reduceLeDiff, Int.reduceEq, Nat.reduceEqDiff, H46Fs16]
  refine WP_cut [20, 21, 69, 70, 71, 72, 73, 74] (fun g h' => g 20 = .string ⟨#[]⟩ ∧ g 21 = .int .i64 0 ∧ Ext h13 h') ?_ ?_
  · refine WP_tree (by kernel_rfl) sta_ext (.quiet 0 (.quiet 1 (.quiet 2 (.quiet 3 (.quiet 4 (.quiet 5 (.quiet 6 (.quiet 7 (.fin))))))))) (by kernel_rfl) rfl (by kernel_rfl) ?_
    simp only [k1, k2, b3, b9, splice, coreS, Value.cells, Value.oneCell', Nat.reduceAdd, Nat.reduceSub, Nat.reduceMul, Nat.reduceLeDiff, Int.reduceEq, Nat.reduceEqDiff, drawS, treeS, H46Fs16]
    refine cQ_ext _ (fun h' x' => CallsH.mono (to49 2 5 h') fun v h'' q => ⟨q.1, q.2⟩) ?_
    simp only [rgV, k1, k2, b3, b9, splice, coreS, Value.cells, Value.oneCell', Nat.reduceAdd, Nat.reduceSub, Nat.reduceMul, Nat.reduceLeDiff, Int.reduceEq, Nat.reduceEqDiff, drawS, treeS, H46Fs16]
    refine cQ_ext _ (fun h' x' => CallsH.mono (surely43 (goodM g1) 2 5 0 h' (ok1.ext x')) fun v h'' q => ⟨q.1, q.2⟩) ?_
    simp only [(kv10 g1).1, (kv10 g1).2, splice, coreS, Value.cells, Value.oneCell', Nat.reduceAdd, Nat.reduceSub, Nat.reduceMul, Nat.reduceLeDiff, Int.reduceEq, Nat.reduceEqDiff, drawS, treeS, H46Fs16]
    refine execT_fin fun hD xD => ?_
    simp only [coreS, Value.cells, Value.oneCell', Nat.reduceAdd, Nat.reduceSub, Nat.reduceMul, Nat.reduceLeDiff, Int.reduceEq, Nat.reduceEqDiff, H46Fs16]
    exact midK_mk (by kernel_rfl) ⟨rfl, rfl, xD⟩
  rintro f10 h14 ⟨f10a, f10b, x14⟩
  replace k1 := x14.get k1
  replace k2 := x14.get k2
  replace ok1 := ok1.ext x14
  replace ok2 := ok2.ext x14
  replace y := y.trans x14
  replace b3 := x14.get b3
  replace b9 := x14.get b9
  simp only [k1, k2, b3, b9, f10a, f10b, splice, coreS, Value.cells, Value.oneCell', Nat.reduceAdd, Nat.reduceSub, Nat.reduceMul, Nat.reduceLeDiff, Int.reduceEq, Nat.reduceEqDiff, H46Fs16]
  refine WP_tree (by kernel_rfl) sta_ext (.quiet 0 (.quiet 1 (.quiet 2 (.quiet 3 (.quiet 4 (.quiet 5 (.quiet 6 (.quiet 7 (.quiet 8 (.quiet 9 (.quiet 10 (.quiet 11 (.quiet 12 (.quiet 13 (.quiet 14 (.quiet 15 (.quiet 16 (.quiet 17 (.quiet 18 (.quiet 19 (.quiet 20 (.quiet 21 (.quiet 22 (.quiet 23 (.quiet 24 (.quiet 25 (.quiet 26 (.quiet 27 (.quiet 28 (.quiet 29 (.quiet 30 (.quiet 31 (.quiet 32 (.quiet 33 (.quiet 34 (.quiet 35 (.quiet 36 (.quiet 37 (.quiet 38 (.quiet 39 (.quiet 40 (.quiet 41 (.quiet 42 (.quiet 43 (.quiet 44 (.quiet 45 (.quiet 46 (.quiet 47 (.quiet 48 (.quiet 49 (.quiet 50 (.quiet 51 (.quiet 52 (.quiet 53 (.quiet 54 (.quiet 55 (.quiet 56 (.quiet 57 (.quiet 58 (.quiet 59 (.quiet 60 (.quiet 61 (.quiet 62 (.quiet 63 (.quiet 64 (.quiet 65 (.quiet 66 (.quiet 67 (.quiet 68 (.quiet 69 (.quiet 70 (.quiet 71 (.quiet 72 (.quiet 73 (.quiet 74 (.quiet 75 (.quiet 76 (.quiet 77 (.quiet 78 (.quiet 79 (.fin))))))))))))))))))))))))))))))))))))))))))))))))))))))))))))))))))))))))))))))))) (by kernel_rfl) rfl (by ((repeat (refine okT_quiet (by as_aux_lemma => kernel_rfl) ?_)); all_goals (as_aux_lemma => kernel_rfl))) ?_
  refine execT_skip 59 (.quiet 59 (.quiet 60 (.quiet 61 (.quiet 62 (.quiet 63 (.quiet 64 (.quiet 65 (.quiet 66 (.quiet 67 (.quiet 68 (.quiet 69 (.quiet 70 (.quiet 71 (.quiet 72 (.quiet 73 (.quiet 74 (.quiet 75 (.quiet 76 (.quiet 77 (.quiet 78 (.quiet 79 (.fin)))))))))))))))))))))) [75, 76, 77, 78, 79, 80, 81, 82, 83, 84, 85, 86, 87, 88, 89, 90, 91, 92, 93, 94, 95, 96, 97, 98, 99, 100, 101, 102, 103, 104, 105, 106, 107, 108, 109, 110, 111, 112, 113, 114, 115, 116, 117, 118, 119, 120, 121, 122, 123, 124, 125, 126, 127, 128, 129, 130, 131, 132, 133] (by kernel_rfl) (by kernel_rfl) fun g hg => ?_
  have f58 : g 133 = .bool true := by rw [hg]; kernel_rfl
  clear hg
  simp only [List.append_eq, List.cons_append, List.nil_append, f58, k1, k2, b3, b9, splice, decide_true, coreS, Value.cells, Value.oneCell', Nat.reduceAdd, Nat.reduceSub, Nat.reduceMul, Nat.reduceLeDiff, Int.reduceEq, Nat.reduceEqDiff, drawS, treeS, H46Fs16]
  refine cQ_ext _ (fun h' x' => CallsH.mono (to49 2 3 h') fun v h'' q => ⟨q.1, q.2⟩) ?_
  simp only [rgV, coreS, Value.cells, Value.oneCell', Nat.reduceAdd, Nat.reduceSub, Nat.reduceMul, Nat.reduceLeDiff, Int.reduceEq, Nat.reduceEqDiff, drawS, treeS, H46Fs16]
  refine eq2Q (u := 54) (b := true) (by kernel_rfl) (xs := [2, 3]) (ys := [2, 3]) rfl rfl rfl rfl (by decide) ?_
  simp only [k1, k2, b3, b9, splice, decide_true, coreS, Value.cells, Value.oneCell', Nat.reduceAdd, Nat.reduceSub, Nat.reduceMul, Nat.reduceLeDiff, Int.reduceEq, Nat.reduceEqDiff, drawS, treeS, H46Fs16]
  refine cQ_ext _ (fun h' x' => CallsH.mono (chk22 (stuckM g2) h' (ok2.ext x')) fun v h'' q => ⟨q.1, q.2⟩) ?_
  simp only [stuck_chk g2, splice, decide_true, coreS, Value.cells, Value.oneCell', Nat.reduceAdd, Nat.reduceSub, Nat.reduceMul, Nat.reduceLeDiff, Int.reduceEq, Nat.reduceEqDiff, drawS, treeS, H46Fs16]
  refine cQ_ext _ (fun h' x' => CallsH.mono (works19 h') fun v h'' q => ⟨q.1, q.2⟩) ?_
  simp only [coreS, Value.cells, Value.oneCell', Nat.reduceAdd, Nat.reduceSub, Nat.reduceMul, Nat.reduceLeDiff, Int.reduceEq, Nat.reduceEqDiff, drawS, treeS, H46Fs16]
  refine execT_fin fun hD xD => ?_
  simp only [coreS, Value.cells, Value.oneCell', Nat.reduceAdd, Nat.reduceSub, Nat.reduceMul, Nat.reduceLeDiff, Int.reduceEq, Nat.reduceEqDiff, H46Fs16]
  exact y.trans xD
end Go.Proofs.YtafemfjhflfdeaaDoor
