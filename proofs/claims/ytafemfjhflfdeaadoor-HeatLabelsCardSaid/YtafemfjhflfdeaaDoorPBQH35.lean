/- HeatLabels returns true. -/
import Derived.Test.YtafemfjhflfdeaaDoorPB13
namespace Go.Proofs.YtafemfjhflfdeaaDoor
open Go Go.Proofs Go.Eng Go.Run Tab
set_option maxRecDepth 100000
set_option linter.unusedSimpArgs false
set_option linter.unusedVariables false
set_option linter.defProp false
set_option maxHeartbeats 8000000
set_option linter.defProp false
def H35Fs5 := (And.intro (And.intro @agg24 @inf24) (And.intro @sz24 @Tryd.underlying22))
theorem lab_int {m : MV} {v : Value} {h : Eng.Heap} (H : LabV m v h) : ∃ a n c xs, v = .tuple #[.slice a n c, .int .i64 (chk m)] ∧ IntsV h a n xs ∧ xs = (if chk m = 0 then moL m m.casts.length else []) ∧ n ≤ 24 + m.casts.length := by
  rcases H with ⟨h0, a, c, rfl, I⟩ | ⟨h0, rfl⟩
  · exact ⟨a, _, c, _, by rw [h0], I, by rw [if_pos h0], by omega⟩
  · exact ⟨none, 0, 0, [], rfl, IntsV.nil _, by rw [if_neg h0], by omega⟩
theorem labels5 (m : MV) (x : Int) (a : Option Addr) (n c : Nat) (L : List Int) (h : Eng.Heap) (hc : IntsV h m.a m.casts.length m.casts) (hw : IntsV h m.b m.waits.length m.waits) (hv : IntsV h a n L) (hnc : n ≤ c) (hcm : c ≤ maxLen) :
    CallsH Tryd.prog 5 #[m.val, .int .i64 x, .slice a n c] h (fun v h' => v = .bool true ∧ Ext h h') := by
  (refine CallsH_of_exec Tryd.func5 rfl bod5 ?_; simp only [Tryd.ntmps5, Tryd.results5, coreS, stK_some, splice, Value.cells, Value.oneCell', Nat.reduceAdd, Nat.reduceSub, Nat.reduceMul, Nat.reduceLeDiff, Int.reduceEq, Nat.reduceEqDiff, H35Fs5])
  have hb := push_new (h := h) (o := .cells #[.slice m.a m.casts.length m.ca, .slice m.b m.waits.length m.cb, .int .i64 m.lo, .int .i64 m.hi] 24)
  have y0 : Ext h (h.push (.cells #[.slice m.a m.casts.length m.ca, .slice m.b m.waits.length m.cb, .int .i64 m.lo, .int .i64 m.hi] 24)) := (Ext.refl h).push _
  have hval : Value.agg #[.slice m.a m.casts.length m.ca, .slice m.b m.waits.length m.cb, .int .i64 m.lo, .int .i64 m.hi] = m.val := rfl
  have works : ∀ {h2 : Eng.Heap}, Ext h h2 → CallsH Tryd.prog 19 #[] h2 (fun v h' => v = .bool true ∧ Ext h h') := fun x => CallsH.mono (works19 _) fun v h' q => ⟨q.1, x.trans q.2⟩
  have b0 := hb
  refine CallsH.mono (great17 m _) ?_
  rintro v h1 ⟨rfl, x1⟩
  have y1 := y0.trans x1
  have b1 := x1.get b0
  by_cases hg : 24 < m.casts.length ∨ 24 < m.waits.length
  · simp only [hg, decide_true, gd_none, coreS, Value.cells, Value.oneCell', Nat.reduceAdd, Nat.reduceSub, Nat.reduceMul, Nat.reduceLeDiff, Int.reduceEq, Nat.reduceEqDiff, H35Fs5]
    refine CallsH.mono (works y1) ?_
    rintro v hW ⟨rfl, xW⟩
    simp only [coreS, Value.cells, Value.oneCell', Nat.reduceAdd, Nat.reduceSub, Nat.reduceMul, Nat.reduceLeDiff, Int.reduceEq, Nat.reduceEqDiff, H35Fs5]
    exact xW
  have hm : m.ok h := ⟨hc, hw, by omega, by omega⟩
  by_cases hl : 24 < n
  · have hl2 : (24 : Int) < n := by omega
    simp only [hg, hl2, decide_true, decide_false, gd_none, coreS, Value.cells, Value.oneCell', Nat.reduceAdd, Nat.reduceSub, Nat.reduceMul, Nat.reduceLeDiff, Int.reduceEq, Nat.reduceEqDiff, H35Fs5]
    refine CallsH.mono (works y1) ?_
    rintro v hW ⟨rfl, xW⟩
    simp only [coreS, Value.cells, Value.oneCell', Nat.reduceAdd, Nat.reduceSub, Nat.reduceMul, Nat.reduceLeDiff, Int.reduceEq, Nat.reduceEqDiff, H35Fs5]
    exact xW
  have hl2 : ¬ (24 : Int) < n := by omega
  simp only [b1, hg, hl2, decide_false, splice, coreS, Value.cells, Value.oneCell', Nat.reduceAdd, Nat.reduceSub, Nat.reduceMul, Nat.reduceLeDiff, Int.reduceEq, Nat.reduceEqDiff, H35Fs5]
  rw [hval]
  refine CallsH.mono (most28 m x _ (hm.ext y1)) ?_
  rintro v h2 ⟨rfl, x2⟩
  have y2 := y1.trans x2
  have b2 := x2.get b1
  simp only [b2, splice, coreS, Value.cells, Value.oneCell', Nat.reduceAdd, Nat.reduceSub, Nat.reduceMul, Nat.reduceLeDiff, Int.reduceEq, Nat.reduceEqDiff, H35Fs5]
  rw [hval]
  refine CallsH.mono (most29 m x _ (hm.ext y2)) ?_
  rintro v h3 ⟨rfl, x3⟩
  have y3 := y2.trans x3
  have b3 := x3.get b2
  simp only [b3, splice, coreS, Value.cells, Value.oneCell', Nat.reduceAdd, Nat.reduceSub, Nat.reduceMul, Nat.reduceLeDiff, Int.reduceEq, Nat.reduceEqDiff, H35Fs5]
  rw [hval]
  refine CallsH.mono (labels30 m _ (hm.ext y3)) ?_
  rintro v h4 ⟨hL1, x4⟩
  have y4 := y3.trans x4
  have b4 := x4.get b3
  obtain ⟨a1, n1, c1, xs1, rfl, I1, e1, l1⟩ := lab_int hL1
  simp only [b4, splice, coreS, Value.cells, Value.oneCell', Nat.reduceAdd, Nat.reduceSub, Nat.reduceMul, Nat.reduceLeDiff, Int.reduceEq, Nat.reduceEqDiff, H35Fs5]
  rw [hval]
  refine CallsH.mono (labels31 m _ (hm.ext y4)) ?_
  rintro v h5 ⟨hL2, x5⟩
  have y5 := y4.trans x5
  have b5 := x5.get b4
  obtain ⟨a2, n2, c2, xs2, rfl, I2, e2, l2⟩ := lab_int hL2
  replace I1 := I1.ext x5
  rw [← e2] at e1; subst e1
  have hcl := hm.cl
  simp only [b5, splice, coreS, Value.cells, Value.oneCell', Nat.reduceAdd, Nat.reduceSub, Nat.reduceMul, Nat.reduceLeDiff, Int.reduceEq, Nat.reduceEqDiff, H35Fs5]
  refine WP_tree (by kernel_rfl) sta_ext (.quiet 0 (.quiet 1 (.quiet 2 (.quiet 3 (.quiet 4 (.quiet 5 (.quiet 6 (.quiet 7 (.quiet 8 (.quiet 9 (.quiet 10 (.quiet 11 (.quiet 12 (.quiet 13 (.quiet 14 (.quiet 15 (.quiet 16 (.quiet 17 (.quiet 18 (.quiet 19 (.quiet 20 (.quiet 21 (.quiet 22 (.quiet 23 (.quiet 24 (.quiet 25 (.quiet 26 (.quiet 27 (.quiet 28 (.quiet 29 (.quiet 30 (.fin)))))))))))))))))))))))))))))))) (by kernel_rfl) rfl (by kernel_rfl) ?_
  simp only [b5, decide_true, splice, coreS, Value.cells, Value.oneCell', Nat.reduceAdd, Nat.reduceSub, Nat.reduceMul, Nat.reduceLeDiff, Int.reduceEq, Nat.reduceEqDiff, drawS, treeS, H35Fs5]
  refine cQ_ext _ (fun h' x' => CallsH.mono (ints32 a1 a2 n1 c1 n2 c2 xs1 xs1 h' (I1.ext x') (I2.ext x') (by omega) (by omega)) fun v h'' q => ⟨q.1, by rw [q.2]; exact Ext.refl _⟩) ?_
  simp only [b5, splice, decide_true, coreS, Value.cells, Value.oneCell', Nat.reduceAdd, Nat.reduceSub, Nat.reduceMul, Nat.reduceLeDiff, Int.reduceEq, Nat.reduceEqDiff, drawS, treeS, H35Fs5]
  refine cQ_ext _ (fun h' x' => CallsH.mono (ckl33 m a n c L h' (hm.ext (y5.trans x')) (hv.ext (y5.trans x')) (by omega)) fun v h'' q => ⟨q.1, q.2⟩) ?_
  simp only [b5, splice, decide_true, coreS, Value.cells, Value.oneCell', Nat.reduceAdd, Nat.reduceSub, Nat.reduceMul, Nat.reduceLeDiff, Int.reduceEq, Nat.reduceEqDiff, drawS, treeS, H35Fs5]
  refine cQ_ext _ (fun h' x' => CallsH.mono (ckl34 m a n c L h' (hm.ext (y5.trans x')) (hv.ext (y5.trans x')) (by omega)) fun v h'' q => ⟨q.1, q.2⟩) ?_
  simp only [b5, splice, decide_true, coreS, Value.cells, Value.oneCell', Nat.reduceAdd, Nat.reduceSub, Nat.reduceMul, Nat.reduceLeDiff, Int.reduceEq, Nat.reduceEqDiff, drawS, treeS, H35Fs5]
  refine cQ_ext _ (fun h' x' => CallsH.mono (works19 h') fun v h'' q => ⟨q.1, q.2⟩) ?_
  simp only [b5, splice, decide_true, coreS, Value.cells, Value.oneCell', Nat.reduceAdd, Nat.reduceSub, Nat.reduceMul, Nat.reduceLeDiff, Int.reduceEq, Nat.reduceEqDiff, drawS, treeS, H35Fs5]
  refine execT_fin fun hD xD => ?_
  simp only [coreS, Value.cells, Value.oneCell', Nat.reduceAdd, Nat.reduceSub, Nat.reduceMul, Nat.reduceLeDiff, Int.reduceEq, Nat.reduceEqDiff, H35Fs5]
  exact y5.trans xD
end Go.Proofs.YtafemfjhflfdeaaDoor
