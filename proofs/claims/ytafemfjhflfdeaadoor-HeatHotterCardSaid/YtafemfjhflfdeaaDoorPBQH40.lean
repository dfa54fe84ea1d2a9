/- HeatHotter returns true. -/
import Derived.Test.YtafemfjhflfdeaaDoorPB13
namespace Go.Proofs.YtafemfjhflfdeaaDoor
open Go Go.Proofs Go.Eng Go.Run Tab
set_option maxRecDepth 100000
set_option linter.unusedSimpArgs false
set_option linter.unusedVariables false
set_option linter.defProp false
set_option maxHeartbeats 8000000
set_option linter.defProp false
def H40Fs10 := (And.intro (And.intro (And.intro @agg22 (And.intro @agg24 @agg54)) (And.intro (And.intro @fo24_0 @inf22) (And.intro @inf24 @inf54))) (And.intro (And.intro (And.intro @sz22 @sz24) (And.intro @sz54 @zero54)) (And.intro (And.intro @Tryd.underlying3 @Tryd.underlying5) (And.intro @Tryd.underlying22 @Tryd.underlying63))))
theorem hotter10 (m : MV) (w q : Int) (a : Option Addr) (n c : Nat) (xs : List Int) (h : Eng.Heap) (hc : IntsV h m.a m.casts.length m.casts) (hw : IntsV h m.b m.waits.length m.waits) (hwb : 0 ≤ w ∧ w ≤ 255) (hqb : 0 ≤ q ∧ q ≤ 255) (hnb : n = xs.length ∧ n ≤ c) (hrb : Row h a (bytesV xs)) (hmb : n ≤ 9223372036854775807) (hxb : ∀ x ∈ xs, 0 ≤ x ∧ x ≤ 255) :
    CallsH Tryd.prog 10 #[m.val, .int .u8 w, .int .u8 q, .slice a n c] h (fun v h' => v = .bool true ∧ Ext h h') := by
  (refine CallsH_of_exec Tryd.func10 rfl bod10 ?_; simp only [Tryd.ntmps10, Tryd.results10, coreS, stK_some, splice, Value.cells, Value.oneCell', Nat.reduceAdd, Nat.reduceSub, Nat.reduceMul, Nat.reduceLeDiff, Int.reduceEq, Nat.reduceEqDiff, H40Fs10])
  have hb := push_new (h := h) (o := .cells #[.slice m.a m.casts.length m.ca, .slice m.b m.waits.length m.cb, .int .i64 m.lo, .int .i64 m.hi] 24)
  have y0 : Ext h (h.push (.cells #[.slice m.a m.casts.length m.ca, .slice m.b m.waits.length m.cb, .int .i64 m.lo, .int .i64 m.hi] 24)) := (Ext.refl h).push _
  have hval : Value.agg #[.slice m.a m.casts.length m.ca, .slice m.b m.waits.length m.cb, .int .i64 m.lo, .int .i64 m.hi] = m.val := rfl
  have works : ∀ {h2 : Eng.Heap}, Ext h h2 → CallsH Tryd.prog 19 #[] h2 (fun v h' => v = .bool true ∧ Ext h h') := fun x => CallsH.mono (works19 _) fun v h' q => ⟨q.1, x.trans q.2⟩
  have b0 := hb
  refine CallsH.mono (fine47 m _ (hc.ext y0) (hw.ext y0)) ?_
  rintro v h1 ⟨rfl, x1⟩
  have y1 := y0.trans x1
  have b1 := x1.get b0
  by_cases hf : okM m = true
  case neg =>
    have hf2 : okM m = false := by simpa using hf
    simp only [hf2, Bool.not_false, gd_none, coreS, Value.cells, Value.oneCell', Nat.reduceAdd, Nat.reduceSub, Nat.reduceMul, Nat.reduceLeDiff, Int.reduceEq, Nat.reduceEqDiff, H40Fs10]
    refine CallsH.mono (works y1) ?_
    rintro v hW ⟨rfl, xW⟩
    simp only [coreS, Value.cells, Value.oneCell', Nat.reduceAdd, Nat.reduceSub, Nat.reduceMul, Nat.reduceLeDiff, Int.reduceEq, Nat.reduceEqDiff, H40Fs10]
    exact xW
  obtain ⟨hg, hc0⟩ := okM_iff.1 hf
  have hm : m.ok h := ⟨hc, hw, by omega, by omega⟩
  have gd := good_of hc0
  have h16 := (chk_pos hc0).1
  have hok := gd.ok
  have hnn : m.ov.n = m.casts.length := rfl
  by_cases hl : 100 < n
  case pos =>
    have hl2 : (100 : Int) < n := by omega
    simp only [hf, hl2, decide_true, Bool.not_true, gd_none, coreS, Value.cells, Value.oneCell', Nat.reduceAdd, Nat.reduceSub, Nat.reduceMul, Nat.reduceLeDiff, Int.reduceEq, Nat.reduceEqDiff, H40Fs10]
    refine CallsH.mono (works y1) ?_
    rintro v hW ⟨rfl, xW⟩
    simp only [coreS, Value.cells, Value.oneCell', Nat.reduceAdd, Nat.reduceSub, Nat.reduceMul, Nat.reduceLeDiff, Int.reduceEq, Nat.reduceEqDiff, H40Fs10]
    exact xW
  have hl2 : ¬ (100 : Int) < n := by omega
  have hnb1 := hnb.1
  obtain ⟨i, hi, ei⟩ := tmod_idx (w := w) (c := (m.casts.length : Int)) hwb.1 (by omega)
  obtain ⟨j, hj, ej⟩ := tmod_idx (w := q) (c := (m.casts.length : Int)) hqb.1 (by omega)
  simp only [b1, hf, hl2, decide_false, Bool.not_true, gd_none, splice, coreS, Value.cells, Value.oneCell', Nat.reduceAdd, Nat.reduceSub, Nat.reduceMul, Nat.reduceLeDiff, Int.reduceEq, Nat.reduceEqDiff, H40Fs10]
  refine WP_tree (by kernel_rfl) sta_ext (.quiet 0 (.quiet 1 (.quiet 2 (.quiet 3 (.quiet 4 (.quiet 5 (.quiet 6 (.quiet 7 (.quiet 8 (.quiet 9 (.quiet 10 (.quiet 11 (.quiet 12 (.quiet 13 (.quiet 14 (.quiet 15 (.quiet 16 (.quiet 17 (.quiet 18 (.quiet 19 (.fin))))))))))))))))))))) (by kernel_rfl) rfl (by kernel_rfl) ?_
  simp only [b1, ei, ej, splice, coreS, Value.cells, Value.oneCell', Nat.reduceAdd, Nat.reduceSub, Nat.reduceMul, Nat.reduceLeDiff, Int.reduceEq, Nat.reduceEqDiff, drawS, treeS, H40Fs10]
  repeat (refine And.intro (by first | omega | (rw [inK_i64]; omega) | rfl | assumption | (decide)) ?_)
  try simp only [ei, ej, coreS, Value.cells, Value.oneCell', Nat.reduceAdd, Nat.reduceSub, Nat.reduceMul, Nat.reduceLeDiff, Int.reduceEq, Nat.reduceEqDiff, drawS, treeS, H40Fs10]
  refine execT_fin fun h2 x2 => ?_
  have y2 := y1.trans x2
  have b2 := x2.get b1
  obtain ⟨lo, hlo⟩ : ∃ lo, min i j = lo := ⟨_, rfl⟩
  obtain ⟨hi', hhi⟩ : ∃ hi', max i j = hi' := ⟨_, rfl⟩
  have e1 : (if (j : Int) < (i : Int) then (j : Int) else (i : Int)) = (lo : Int) := by split <;> omega
  have e2 : (if (i : Int) < (j : Int) then (j : Int) else (i : Int)) = (hi' : Int) := by split <;> omega
  have l1 : lo ≤ hi' := by omega
  have l2 : hi' < m.casts.length := by omega
  have l3 : lo < m.casts.length := by omega
  have hol : (oddL xs).length ≤ 100 := by rw [oddL_length]; omega
  simp only [b2, e1, e2, splice, coreS, Value.cells, Value.oneCell', Nat.reduceAdd, Nat.reduceSub, Nat.reduceMul, Nat.reduceLeDiff, Int.reduceEq, Nat.reduceEqDiff, H40Fs10]
  try rw [hval]
  refine CallsH.mono (working48 m gd lo a n c xs _ (hm.ext y2) l3 hnb1 (hrb.ext y2) hxb (by omega)) ?_
  rintro v h3 ⟨rfl, x3⟩
  have y3 := y2.trans x3
  have b3 := x3.get b2
  obtain ⟨u, hu, hrun, hlen, rE, rA, rK, rS⟩ := wk_vals hc0 l3 hol
  generalize m.ov.wk lo (oddL xs) = p at hrun hlen rE rA rK rS ⊢
  have hp500 : p.length ≤ 500 := by omega
  simp only [b3, splice, coreS, Value.cells, Value.oneCell', Nat.reduceAdd, Nat.reduceSub, Nat.reduceMul, Nat.reduceLeDiff, Int.reduceEq, Nat.reduceEqDiff, H40Fs10]
  try rw [hval]
  refine CallsH.mono (run20 m lo (planS p) _ (hm.ext y3) rS) ?_
  rintro v h4 ⟨rfl, x4⟩
  have y4 := y3.trans x4
  have b4 := x4.get b3
  simp only [b4, rE, rA, rK, e2, splice, coreS, Value.cells, Value.oneCell', Nat.reduceAdd, Nat.reduceSub, Nat.reduceMul, Nat.reduceLeDiff, Int.reduceEq, Nat.reduceEqDiff, H40Fs10]
  try rw [hval]
  refine CallsH.mono (run20 m hi' (planS p) _ (hm.ext y4) rS) ?_
  rintro v h5 ⟨rfl, x5⟩
  have y5 := y4.trans x5
  have b5 := x5.get b4
  cases hrk : m.ov.run (hi', hi') p with
  | none =>
    obtain ⟨sE, sA, sK⟩ := run_n hc0 l2 hp500 hrk
    have hsp : m.ov.run (lo, hi') p = none := by rw [OV.run_span hok p lo hi' l1 l2, hrun, hrk]; rfl
    obtain ⟨ra1, ra2⟩ := ra_n hc0 l1 l2 hp500 hsp
    simp only [b5, sE, sA, sK, e1, e2, splice, coreS, Value.cells, Value.oneCell', Nat.reduceAdd, Nat.reduceSub, Nat.reduceMul, Nat.reduceLeDiff, Int.reduceEq, Nat.reduceEqDiff, H40Fs10]
    refine WP_cut [19, 20, 71, 72, 73, 74, 75, 76, 77, 78, 79] (fun g h' => (∃ b, g 19 = .pointer (some ⟨b, 0, none⟩) ∧ h'[b]? = some (.cells #[.int .i64 (((0 : Nat) : Int)), .int .i64 (((0 : Nat) : Int))] 54)) ∧ g 20 = .int .i64 22 ∧ Ext h5 h') ?_ ?_
    · refine WP_tree (by kernel_rfl) sta_ext (.quiet 0 (.quiet 1 (.quiet 2 (.quiet 3 (.quiet 4 (.quiet 5 (.quiet 6 (.quiet 7 (.pure 8 (.keep 9 (.one 10 (.quiet 11 (.fin))))))))))))) (by kernel_rfl) rfl (by kernel_rfl) ?_
      simp only [b5, splice, coreS, Value.cells, Value.oneCell', Nat.reduceAdd, Nat.reduceSub, Nat.reduceMul, Nat.reduceLeDiff, Int.reduceEq, Nat.reduceEqDiff, drawS, treeS, H40Fs10]
      refine cQ_ext _ (fun h' x' => CallsH.mono (to49 lo hi' h') fun v h'' q => ⟨q.1, q.2⟩) ?_
      simp only [rgV, b5, splice, coreS, Value.cells, Value.oneCell', Nat.reduceAdd, Nat.reduceSub, Nat.reduceMul, Nat.reduceLeDiff, Int.reduceEq, Nat.reduceEqDiff, drawS, treeS, H40Fs10]
      try rw [hval]
      refine cQ_ext _ (fun h' x' => CallsH.mono (runAll41 m lo hi' (planS p) h' (hm.ext (y5.trans x')) rS) fun v h'' q => ⟨q.1, q.2⟩) ?_
      simp only [ra1, ra2, spV, splice, coreS, Value.cells, Value.oneCell', Nat.reduceAdd, Nat.reduceSub, Nat.reduceMul, Nat.reduceLeDiff, Int.reduceEq, Nat.reduceEqDiff, drawS, treeS, H40Fs10]
      refine execT_keep fun hA xA => ?_
      simp only [splice, coreS, Value.cells, Value.oneCell', Nat.reduceAdd, Nat.reduceSub, Nat.reduceMul, Nat.reduceLeDiff, Int.reduceEq, Nat.reduceEqDiff, drawS, treeS, H40Fs10]
      refine ⟨(Ext.refl hA).push _, ?_⟩
      refine execT_one fun hB xB => ?_
      have tB := xB.get (push_new (h := hA))
      simp only [tB, splice, coreS, Value.cells, Value.oneCell', Nat.reduceAdd, Nat.reduceSub, Nat.reduceMul, Nat.reduceLeDiff, Int.reduceEq, Nat.reduceEqDiff, drawS, treeS, H40Fs10]
      refine stK_abs tB (by simp) fun hC gC uC => ?_
      simp only [splice] at gC
      have xx : Ext hA hC := uC.ext xB.of_push (Nat.le_refl _)
      try simp only [coreS, Value.cells, Value.oneCell', Nat.reduceAdd, Nat.reduceSub, Nat.reduceMul, Nat.reduceLeDiff, Int.reduceEq, Nat.reduceEqDiff, drawS, treeS, H40Fs10]
      refine execT_fin fun hD xD => ?_
      simp only [coreS, Value.cells, Value.oneCell', Nat.reduceAdd, Nat.reduceSub, Nat.reduceMul, Nat.reduceLeDiff, Int.reduceEq, Nat.reduceEqDiff, H40Fs10]
      exact midK_mk (by kernel_rfl) ⟨⟨hA.size, rfl, xD.get gC⟩, rfl, (xA.trans xx).trans xD⟩
    rintro f8 h6 ⟨⟨b8_, f8a, c8⟩, f8b, x6⟩
    have y6 := y5.trans x6
    have b6 := x6.get b5
    simp only [b6, f8a, f8b, decide_true, splice, coreS, Value.cells, Value.oneCell', Nat.reduceAdd, Nat.reduceSub, Nat.reduceMul, Nat.reduceLeDiff, Int.reduceEq, Nat.reduceEqDiff, H40Fs10]
    refine CallsH.mono (works y6) ?_
    rintro v hW ⟨rfl, xW⟩
    simp only [coreS, Value.cells, Value.oneCell', Nat.reduceAdd, Nat.reduceSub, Nat.reduceMul, Nat.reduceLeDiff, Int.reduceEq, Nat.reduceEqDiff, H40Fs10]
    exact xW
  | some t =>
    have ht := OV.run_same hok hrk
    obtain ⟨v, v2⟩ := t
    obtain rfl : v2 = v := congrArg Prod.snd ht
    obtain ⟨sE, sA, sK⟩ := run_s hc0 l2 hp500 hrk
    have hsp : m.ov.run (lo, hi') p = some (u, v2) := by rw [OV.run_span hok p lo hi' l1 l2, hrun, hrk]; rfl
    obtain ⟨ra1, ra2⟩ := ra_s hc0 l1 l2 hp500 hsp
    have hle : u ≤ v2 := (OV.run_mono hok (s := (lo, lo)) (t := (hi', hi')) ⟨l3, l3⟩ ⟨l2, l2⟩ l1 l1 hrun hrk).1
    have q1 : (u : Int) ≤ v2 := by omega
    simp only [b5, sE, sA, sK, e1, e2, splice, coreS, Value.cells, Value.oneCell', Nat.reduceAdd, Nat.reduceSub, Nat.reduceMul, Nat.reduceLeDiff, Int.reduceEq, Nat.reduceEqDiff, H40Fs10]
    refine WP_cut [19, 20, 71, 72, 73, 74, 75, 76, 77, 78, 79] (fun g h' => (∃ b, g 19 = .pointer (some ⟨b, 0, none⟩) ∧ h'[b]? = some (.cells #[.int .i64 ((u : Int)), .int .i64 ((v2 : Int))] 54)) ∧ g 20 = .int .i64 0 ∧ Ext h5 h') ?_ ?_
    · refine WP_tree (by kernel_rfl) sta_ext (.quiet 0 (.quiet 1 (.quiet 2 (.quiet 3 (.quiet 4 (.quiet 5 (.quiet 6 (.quiet 7 (.pure 8 (.keep 9 (.one 10 (.quiet 11 (.fin))))))))))))) (by kernel_rfl) rfl (by kernel_rfl) ?_
      simp only [b5, splice, coreS, Value.cells, Value.oneCell', Nat.reduceAdd, Nat.reduceSub, Nat.reduceMul, Nat.reduceLeDiff, Int.reduceEq, Nat.reduceEqDiff, drawS, treeS, H40Fs10]
      refine cQ_ext _ (fun h' x' => CallsH.mono (to49 lo hi' h') fun v h'' q => ⟨q.1, q.2⟩) ?_
      simp only [rgV, b5, splice, coreS, Value.cells, Value.oneCell', Nat.reduceAdd, Nat.reduceSub, Nat.reduceMul, Nat.reduceLeDiff, Int.reduceEq, Nat.reduceEqDiff, drawS, treeS, H40Fs10]
      try rw [hval]
      refine cQ_ext _ (fun h' x' => CallsH.mono (runAll41 m lo hi' (planS p) h' (hm.ext (y5.trans x')) rS) fun v h'' q => ⟨q.1, q.2⟩) ?_
      simp only [ra1, ra2, spV, splice, coreS, Value.cells, Value.oneCell', Nat.reduceAdd, Nat.reduceSub, Nat.reduceMul, Nat.reduceLeDiff, Int.reduceEq, Nat.reduceEqDiff, drawS, treeS, H40Fs10]
      refine execT_keep fun hA xA => ?_
      simp only [splice, coreS, Value.cells, Value.oneCell', Nat.reduceAdd, Nat.reduceSub, Nat.reduceMul, Nat.reduceLeDiff, Int.reduceEq, Nat.reduceEqDiff, drawS, treeS, H40Fs10]
      refine ⟨(Ext.refl hA).push _, ?_⟩
      refine execT_one fun hB xB => ?_
      have tB := xB.get (push_new (h := hA))
      simp only [tB, splice, coreS, Value.cells, Value.oneCell', Nat.reduceAdd, Nat.reduceSub, Nat.reduceMul, Nat.reduceLeDiff, Int.reduceEq, Nat.reduceEqDiff, drawS, treeS, H40Fs10]
      refine stK_abs tB (by simp) fun hC gC uC => ?_
      simp only [splice] at gC
      have xx : Ext hA hC := uC.ext xB.of_push (Nat.le_refl _)
      try simp only [coreS, Value.cells, Value.oneCell', Nat.reduceAdd, Nat.reduceSub, Nat.reduceMul, Nat.reduceLeDiff, Int.reduceEq, Nat.reduceEqDiff, drawS, treeS, H40Fs10]
      refine execT_fin fun hD xD => ?_
      simp only [coreS, Value.cells, Value.oneCell', Nat.reduceAdd, Nat.reduceSub, Nat.reduceMul, Nat.reduceLeDiff, Int.reduceEq, Nat.reduceEqDiff, H40Fs10]
      exact midK_mk (by kernel_rfl) ⟨⟨hA.size, rfl, xD.get gC⟩, rfl, (xA.trans xx).trans xD⟩
    rintro f8 h6 ⟨⟨b8_, f8a, c8⟩, f8b, x6⟩
    have y6 := y5.trans x6
    have b6 := x6.get b5
    simp only [b6, f8a, f8b, decide_true, splice, coreS, Value.cells, Value.oneCell', Nat.reduceAdd, Nat.reduceSub, Nat.reduceMul, Nat.reduceLeDiff, Int.reduceEq, Nat.reduceEqDiff, H40Fs10]
    refine WP_tree (by kernel_rfl) sta_ext (.quiet 0 (.quiet 1 (.quiet 2 (.quiet 3 (.quiet 4 (.quiet 5 (.quiet 6 (.quiet 7 (.quiet 8 (.quiet 9 (.quiet 10 (.quiet 11 (.quiet 12 (.quiet 13 (.quiet 14 (.quiet 15 (.quiet 16 (.quiet 17 (.quiet 18 (.quiet 19 (.quiet 20 (.quiet 21 (.quiet 22 (.fin)))))))))))))))))))))))) (by kernel_rfl) rfl (by kernel_rfl) ?_
    simp only [b6, f8a, f8b, c8, q1, decide_true, splice, coreS, Value.cells, Value.oneCell', Nat.reduceAdd, Nat.reduceSub, Nat.reduceMul, Nat.reduceLeDiff, Int.reduceEq, Nat.reduceEqDiff, drawS, treeS, H40Fs10]
    refine cQ_ext _ (fun h' x' => CallsH.mono (to49 u v2 h') fun v h'' q => ⟨q.1, q.2⟩) ?_
    simp only [rgV, b6, c8, splice, decide_true, coreS, Value.cells, Value.oneCell', Nat.reduceAdd, Nat.reduceSub, Nat.reduceMul, Nat.reduceLeDiff, Int.reduceEq, Nat.reduceEqDiff, drawS, treeS, H40Fs10]
    refine eq2Q (u := 54) (b := true) (by kernel_rfl) (xs := [(u : Int), (v2 : Int)]) (ys := [(u : Int), (v2 : Int)]) rfl rfl rfl rfl (by simp) ?_
    simp only [b6, c8, splice, decide_true, coreS, Value.cells, Value.oneCell', Nat.reduceAdd, Nat.reduceSub, Nat.reduceMul, Nat.reduceLeDiff, Int.reduceEq, Nat.reduceEqDiff, drawS, treeS, H40Fs10]
    refine cQ_ext _ (fun h' x' => CallsH.mono (works19 h') fun v h'' q => ⟨q.1, q.2⟩) ?_
    simp only [coreS, Value.cells, Value.oneCell', Nat.reduceAdd, Nat.reduceSub, Nat.reduceMul, Nat.reduceLeDiff, Int.reduceEq, Nat.reduceEqDiff, drawS, treeS, H40Fs10]
    refine execT_fin fun hD xD => ?_
    simp only [coreS, Value.cells, Value.oneCell', Nat.reduceAdd, Nat.reduceSub, Nat.reduceMul, Nat.reduceLeDiff, Int.reduceEq, Nat.reduceEqDiff, H40Fs10]
    exact y6.trans xD
end Go.Proofs.YtafemfjhflfdeaaDoor
