/- HeatProved returns true. -/
import Derived.Test.YtafemfjhflfdeaaDoorPB13
namespace Go.Proofs.YtafemfjhflfdeaaDoor
open Go Go.Proofs Go.Eng Go.Run Tab
set_option maxRecDepth 100000
set_option linter.unusedSimpArgs false
set_option linter.unusedVariables false
set_option linter.defProp false
set_option maxHeartbeats 8000000
set_option linter.defProp false
def H38Fs8 := (And.intro (And.intro (And.intro @agg22 (And.intro @agg24 @agg3)) (And.intro (And.intro @by3 @fo24_0) (And.intro @inf22 @inf24))) (And.intro (And.intro (And.intro @inf3 @sz22) (And.intro @sz24 @sz3)) (And.intro (And.intro @Tryd.underlying3 @Tryd.underlying5) (And.intro @Tryd.underlying22 @Tryd.underlying63))))
theorem proved8 (m : MV) (w : Int) (a : Option Addr) (n c : Nat) (xs : List Int) (a2 : Option Addr) (n2 c2 : Nat) (L : List Int) (h : Eng.Heap) (hc : IntsV h m.a m.casts.length m.casts) (hw : IntsV h m.b m.waits.length m.waits) (hwb : 0 ≤ w ∧ w ≤ 255) (hnb : n = xs.length ∧ n ≤ c) (hrb : Row h a (bytesV xs)) (hmb : n ≤ 9223372036854775807) (hxb : ∀ x ∈ xs, 0 ≤ x ∧ x ≤ 255) (hv : IntsV h a2 n2 L) (hnc : n2 ≤ c2) (hcm : c2 ≤ maxLen) :
    CallsH Tryd.prog 8 #[m.val, .int .u8 w, .slice a n c, .slice a2 n2 c2] h (fun v h' => v = .bool true ∧ Ext h h') := by
  (refine CallsH_of_exec Tryd.func8 rfl bod8 ?_; simp only [Tryd.ntmps8, Tryd.results8, coreS, stK_some, splice, Value.cells, Value.oneCell', Nat.reduceAdd, Nat.reduceSub, Nat.reduceMul, Nat.reduceLeDiff, Int.reduceEq, Nat.reduceEqDiff, H38Fs8])
  have hb := push_new (h := h) (o := .cells #[.slice m.a m.casts.length m.ca, .slice m.b m.waits.length m.cb, .int .i64 m.lo, .int .i64 m.hi] 24)
  have y0 : Ext h (h.push (.cells #[.slice m.a m.casts.length m.ca, .slice m.b m.waits.length m.cb, .int .i64 m.lo, .int .i64 m.hi] 24)) := (Ext.refl h).push _
  have hval : Value.agg #[.slice m.a m.casts.length m.ca, .slice m.b m.waits.length m.cb, .int .i64 m.lo, .int .i64 m.hi] = m.val := rfl
  have works : ∀ {h2 : Eng.Heap}, Ext h h2 → CallsH Tryd.prog 19 #[] h2 (fun v h' => v = .bool true ∧ Ext h h') := fun x => CallsH.mono (works19 _) fun v h' q => ⟨q.1, x.trans q.2⟩
  have b0 := hb
  refine CallsH.mono (fine47 m _ (hc.ext y0) (hw.ext y0)) ?_
  rintro v h1 ⟨rfl, x1⟩
  have y1 := y0.trans x1
  have b1 := x1.get b0
  by_cases hf : okM m = true
  case neg =>
    have hf2 : okM m = false := by simpa using hf
    simp only [hf2, Bool.not_false, gd_none, coreS, Value.cells, Value.oneCell', Nat.reduceAdd, Nat.reduceSub, Nat.reduceMul, Nat.reduceLeDiff, Int.reduceEq, Nat.reduceEqDiff, H38Fs8]
    refine CallsH.mono (works y1) ?_
    rintro v hW ⟨rfl, xW⟩
    simp only [coreS, Value.cells, Value.oneCell', Nat.reduceAdd, Nat.reduceSub, Nat.reduceMul, Nat.reduceLeDiff, Int.reduceEq, Nat.reduceEqDiff, H38Fs8]
    exact xW
  obtain ⟨hg, hc0⟩ := okM_iff.1 hf
  have hm : m.ok h := ⟨hc, hw, by omega, by omega⟩
  have gd := good_of hc0
  have h16 := (chk_pos hc0).1
  have hok := gd.ok
  have hnn : m.ov.n = m.casts.length := rfl
  have hln := hv.len
  by_cases hl : 100 < n
  case pos =>
    have hl2 : (100 : Int) < n := by omega
    simp only [hf, hl2, decide_true, Bool.not_true, gd_none, coreS, Value.cells, Value.oneCell', Nat.reduceAdd, Nat.reduceSub, Nat.reduceMul, Nat.reduceLeDiff, Int.reduceEq, Nat.reduceEqDiff, H38Fs8]
    refine CallsH.mono (works y1) ?_
    rintro v hW ⟨rfl, xW⟩
    simp only [coreS, Value.cells, Value.oneCell', Nat.reduceAdd, Nat.reduceSub, Nat.reduceMul, Nat.reduceLeDiff, Int.reduceEq, Nat.reduceEqDiff, H38Fs8]
    exact xW
  have hl2 : ¬ (100 : Int) < n := by omega
  by_cases hl3 : 24 < n2
  case pos =>
    have hl4 : (24 : Int) < n2 := by omega
    simp only [hf, hl2, hl4, decide_true, decide_false, Bool.not_true, gd_none, coreS, Value.cells, Value.oneCell', Nat.reduceAdd, Nat.reduceSub, Nat.reduceMul, Nat.reduceLeDiff, Int.reduceEq, Nat.reduceEqDiff, H38Fs8]
    refine CallsH.mono (works y1) ?_
    rintro v hW ⟨rfl, xW⟩
    simp only [coreS, Value.cells, Value.oneCell', Nat.reduceAdd, Nat.reduceSub, Nat.reduceMul, Nat.reduceLeDiff, Int.reduceEq, Nat.reduceEqDiff, H38Fs8]
    exact xW
  have hl4 : ¬ (24 : Int) < n2 := by omega
  obtain ⟨i, hi, ei⟩ := tmod_idx (w := w) (c := (m.casts.length : Int)) hwb.1 (by omega)
  simp only [b1, hf, hl2, hl4, ei, decide_false, Bool.not_true, gd_none, splice, coreS, Value.cells, Value.oneCell', Nat.reduceAdd, Nat.reduceSub, Nat.reduceMul, Nat.reduceLeDiff, Int.reduceEq, Nat.reduceEqDiff, H38Fs8]
  have hi2 : i < m.casts.length := by omega
  refine ⟨by rw [inK_i64]; omega, by omega, ?_⟩
  obtain ⟨u, hu, hrun, hlen, rE, rA, rK, rS⟩ := wk_vals hc0 hi2 (bs := oddL xs) (by rw [oddL_length]; omega)
  have hnb1 := hnb.1
  refine WP_cut [11, 12, 13, 40, 41, 42, 43, 44, 45, 46, 47, 48, 49, 50] (fun g h' => g 12 = .int .i64 (OV.casts (m.ov.wk i (oddL xs)) : Nat) ∧ g 13 = .int .i64 0 ∧ Ext h1 h') ?_ ?_
  · refine WP_tree (by kernel_rfl) sta_ext (.quiet 0 (.quiet 1 (.quiet 2 (.quiet 3 (.quiet 4 (.quiet 5 (.quiet 6 (.quiet 7 (.quiet 8 (.quiet 9 (.quiet 10 (.quiet 11 (.quiet 12 (.quiet 13 (.fin))))))))))))))) (by kernel_rfl) rfl (by kernel_rfl) ?_
    simp only [b1, splice, coreS, Value.cells, Value.oneCell', Nat.reduceAdd, Nat.reduceSub, Nat.reduceMul, Nat.reduceLeDiff, Int.reduceEq, Nat.reduceEqDiff, drawS, treeS, H38Fs8]
    try rw [hval]
    refine cQ_ext _ (fun h' x' => CallsH.mono (working48 m gd i a n c xs h' (hm.ext (y1.trans x')) hi2 hnb1 (hrb.ext (y1.trans x')) hxb (by omega)) fun v h'' q => ⟨q.1, q.2⟩) ?_
    simp only [b1, splice, decide_true, coreS, Value.cells, Value.oneCell', Nat.reduceAdd, Nat.reduceSub, Nat.reduceMul, Nat.reduceLeDiff, Int.reduceEq, Nat.reduceEqDiff, drawS, treeS, H38Fs8]
    try rw [hval]
    refine cQ_ext _ (fun h' x' => CallsH.mono (run20 m i _ h' (hm.ext (y1.trans x')) rS) fun v h'' q => ⟨q.1, q.2⟩) ?_
    simp only [b1, rE, rA, rK, splice, decide_true, coreS, Value.cells, Value.oneCell', Nat.reduceAdd, Nat.reduceSub, Nat.reduceMul, Nat.reduceLeDiff, Int.reduceEq, Nat.reduceEqDiff, drawS, treeS, H38Fs8]
    refine execT_fin fun hD xD => ?_
    simp only [coreS, Value.cells, Value.oneCell', Nat.reduceAdd, Nat.reduceSub, Nat.reduceMul, Nat.reduceLeDiff, Int.reduceEq, Nat.reduceEqDiff, H38Fs8]
    exact midK_mk (by kernel_rfl) ⟨rfl, rfl, xD⟩
  rintro f5 h2 ⟨f5a, f5b, x2⟩
  have y2 := y1.trans x2
  have b2 := x2.get b1
  simp only [b2, f5a, f5b, splice, coreS, Value.cells, Value.oneCell', Nat.reduceAdd, Nat.reduceSub, Nat.reduceMul, Nat.reduceLeDiff, Int.reduceEq, Nat.reduceEqDiff, H38Fs8]
  rw [hval]
  refine CallsH.mono (labels30 m _ (hm.ext y2)) ?_
  rintro v h3 ⟨hL, x3⟩
  have y3 := y2.trans x3
  have b3 := x3.get b2
  obtain ⟨a1, d1, rfl, I1⟩ := lab_of hc0 hL
  simp only [b3, splice, coreS, Value.cells, Value.oneCell', Nat.reduceAdd, Nat.reduceSub, Nat.reduceMul, Nat.reduceLeDiff, Int.reduceEq, Nat.reduceEqDiff, H38Fs8]
  rw [hval]
  refine CallsH.mono (most28 m i _ (hm.ext y3)) ?_
  rintro v h4 ⟨rfl, x4⟩
  have y4 := y3.trans x4
  have b4 := x4.get b3
  have hcl := hm.cl
  have cE := ckl_mo hc0
  have cA := moL_at hi2
  have hmL : (moL m m.casts.length).length = m.casts.length := by simp [moL]
  replace I1 := I1.ext x4
  generalize moL m m.casts.length = l at I1 cE cA hmL
  have hrl := OV.mo_right hok
  simp only [b4, f5a, f5b, decide_true, Bool.not_true, splice, coreS, Value.cells, Value.oneCell', Nat.reduceAdd, Nat.reduceSub, Nat.reduceMul, Nat.reduceLeDiff, Int.reduceEq, Nat.reduceEqDiff, H38Fs8]
  try rw [hval]
  refine CallsH.mono (ckl33 m a1 _ d1 l _ (hm.ext y4) I1 (by omega)) ?_
  rintro v h5 ⟨rfl, x5⟩
  have y5 := y4.trans x5
  have b5 := x5.get b4
  replace I1 := I1.ext x5
  simp only [b5, cE, decide_true, Bool.not_true, splice, coreS, Value.cells, Value.oneCell', Nat.reduceAdd, Nat.reduceSub, Nat.reduceMul, Nat.reduceLeDiff, Int.reduceEq, Nat.reduceEqDiff, H38Fs8]
  try rw [hval]
  refine CallsH.mono (ckl34 m a1 _ d1 l _ (hm.ext y5) I1 (by omega)) ?_
  rintro v h6 ⟨rfl, x6⟩
  have y6 := y5.trans x6
  have b6 := x6.get b5
  replace I1 := I1.ext x6
  have hcas : 0 ≤ m.ov.mo i → (OV.casts (m.ov.wk i (oddL xs)) : Int) ≤ m.ov.mo i := fun h0 => OV.lab_run hok hrl _ i _ hi2 h0 hrun
  obtain ⟨K, hK⟩ : ∃ K, OV.casts (m.ov.wk i (oddL xs)) = K := ⟨_, rfl⟩
  rw [hK] at f5a hcas
  have cell1 := I1.cell (j := i) (by omega)
  rw [cA] at cell1
  have sm1 := I1.isSome (by omega)
  cases hmost : m.ov.most i with
  | none =>
    have hmo := OV.mo_none hmost
    obtain ⟨vE, vW, _, _⟩ := mo_n hc0 hi2 hmost
    rw [hmo] at cell1 cA hcas
    have q1 : (-1 : Int) < 0 := by decide
    have q2 : ¬ (0 : Int) ≤ -1 := by decide
    simp only [b6, cE, vE, vW, q1, q2, cell1, f5a, decide_true, decide_false, Bool.not_true, Int.toNat_natCast, gd_none, hK, splice, coreS, Value.cells, Value.oneCell', Nat.reduceAdd, Nat.reduceSub, Nat.reduceMul, Nat.reduceLeDiff, Int.reduceEq, Nat.reduceEqDiff, H38Fs8]
    repeat (refine And.intro (by first | omega | (rw [inK_i64]; omega) | rfl | assumption | (exact sm1)) ?_)
    try simp only [b6, cE, vE, vW, q1, q2, cell1, f5a, decide_true, decide_false, Bool.not_true, Int.toNat_natCast, gd_none, hK, splice, coreS, Value.cells, Value.oneCell', Nat.reduceAdd, Nat.reduceSub, Nat.reduceMul, Nat.reduceLeDiff, Int.reduceEq, Nat.reduceEqDiff, H38Fs8]
    rw [← hmo] at cA
    rw [hval]
    refine CallsH.mono (ckl33 m a2 n2 c2 L _ (hm.ext y6) (hv.ext y6) (by omega)) ?_
    rintro v hQ ⟨rfl, xQ⟩
    have yQ := y6.trans xQ
    have bQ := xQ.get b6
    simp only [bQ, splice, coreS, Value.cells, Value.oneCell', Nat.reduceAdd, Nat.reduceSub, Nat.reduceMul, Nat.reduceLeDiff, Int.reduceEq, Nat.reduceEqDiff, H38Fs8]
    rw [hval]
    refine CallsH.mono (ckl34 m a2 n2 c2 L _ (hm.ext yQ) (hv.ext yQ) (by omega)) ?_
    rintro v hR ⟨rfl, xR⟩
    have yR := yQ.trans xR
    have bR := xR.get bQ
    simp only [bR, decide_true, Bool.not_true, splice, coreS, Value.cells, Value.oneCell', Nat.reduceAdd, Nat.reduceSub, Nat.reduceMul, Nat.reduceLeDiff, Int.reduceEq, Nat.reduceEqDiff, H38Fs8]
    have cellR := ((I1.ext xQ).ext xR).cell (j := i) (by omega)
    rw [cA, hmo] at cellR
    refine WP_tree (by kernel_rfl) sta_ext (.quiet 0 (.quiet 1 (.quiet 2 (.quiet 3 (.quiet 4 (.quiet 5 (.quiet 6 (.quiet 7 (.quiet 8 (.quiet 9 (.quiet 10 (.quiet 11 (.quiet 12 (.quiet 13 (.quiet 14 (.quiet 15 (.quiet 16 (.quiet 17 (.quiet 18 (.quiet 19 (.quiet 20 (.quiet 21 (.quiet 22 (.quiet 23 (.quiet 24 (.quiet 25 (.quiet 26 (.quiet 27 (.quiet 28 (.quiet 29 (.quiet 30 (.quiet 31 (.quiet 32 (.quiet 33 (.quiet 34 (.quiet 35 (.quiet 36 (.quiet 37 (.quiet 38 (.fin)))))))))))))))))))))))))))))))))))))))) (by kernel_rfl) rfl (by kernel_rfl) ?_
    by_cases e0 : cklE m L = 0
    case neg =>
      simp only [bR, e0, decide_false, Bool.not_false, splice, gd_none, gtT_none, coreS, Value.cells, Value.oneCell', Nat.reduceAdd, Nat.reduceSub, Nat.reduceMul, Nat.reduceLeDiff, Int.reduceEq, Nat.reduceEqDiff, drawS, treeS, H38Fs8]
      refine cQ_ext _ (fun h' x' => CallsH.mono (works19 h') fun v h'' q => ⟨q.1, q.2⟩) ?_
      simp only [coreS, Value.cells, Value.oneCell', Nat.reduceAdd, Nat.reduceSub, Nat.reduceMul, Nat.reduceLeDiff, Int.reduceEq, Nat.reduceEqDiff, drawS, treeS, H38Fs8]
      refine execT_fin fun hD xD => ?_
      simp only [coreS, Value.cells, Value.oneCell', Nat.reduceAdd, Nat.reduceSub, Nat.reduceMul, Nat.reduceLeDiff, Int.reduceEq, Nat.reduceEqDiff, H38Fs8]
      exact yR.trans xD
    obtain ⟨_, hL2, hRL⟩ := ckl_right e0
    have cell2 := (hv.ext yR).cell (j := i) (by omega)
    have sm2 := hv.isSome (by omega)
    have hrun2 := OV.lab_run hok hRL (m.ov.wk i (oddL xs)) i (u, u) hi2
    generalize hLi : L.getD i 0 = z at cell2 hrun2
    by_cases hz : z < 0
    case pos =>
      simp only [bR, e0, cell2, hz, decide_true, Bool.not_true, splice, gd_none, gtT_none, Int.toNat_natCast, coreS, Value.cells, Value.oneCell', Nat.reduceAdd, Nat.reduceSub, Nat.reduceMul, Nat.reduceLeDiff, Int.reduceEq, Nat.reduceEqDiff, drawS, treeS, H38Fs8]
      repeat (refine And.intro (by first | omega | (rw [inK_i64]; omega) | rfl | assumption | (exact sm2)) ?_)
      try simp only [bR, e0, cell2, hz, decide_true, Bool.not_true, splice, gd_none, gtT_none, Int.toNat_natCast, coreS, Value.cells, Value.oneCell', Nat.reduceAdd, Nat.reduceSub, Nat.reduceMul, Nat.reduceLeDiff, Int.reduceEq, Nat.reduceEqDiff, drawS, treeS, H38Fs8]
      refine cQ_ext _ (fun h' x' => CallsH.mono (works19 h') fun v h'' q => ⟨q.1, q.2⟩) ?_
      simp only [coreS, Value.cells, Value.oneCell', Nat.reduceAdd, Nat.reduceSub, Nat.reduceMul, Nat.reduceLeDiff, Int.reduceEq, Nat.reduceEqDiff, drawS, treeS, H38Fs8]
      refine execT_fin fun hD xD => ?_
      simp only [coreS, Value.cells, Value.oneCell', Nat.reduceAdd, Nat.reduceSub, Nat.reduceMul, Nat.reduceLeDiff, Int.reduceEq, Nat.reduceEqDiff, H38Fs8]
      exact yR.trans xD
    have hz0 : 0 ≤ z := by omega
    have hz1 := hrun2 hz0 hrun
    rw [hK] at hz1
    obtain ⟨x1, hx1⟩ := OV.most_none hok hi2 hmost (z.toNat + 1)
    have : ((z.toNat + 1 : Nat) : Int) ≤ L.getD i 0 := OV.lab_lw hok hRL (L := fun i => L.getD i 0) hi2 (show 0 ≤ L.getD i 0 by rw [hLi]; exact hz0) hx1
    rw [hLi] at this
    omega
  | some k =>
    have hmo := OV.mo_some hmost
    obtain ⟨vE, vW, _, _⟩ := mo_s hc0 hi2 hmost
    rw [hmo] at cell1 cA hcas
    have q1 := neg_nat k
    have q2 := nat_nonneg k
    have q3 : ¬ (k : Int) < K := by have := hcas q2; omega
    simp only [b6, cE, vE, vW, q1, q2, q3, cell1, f5a, decide_true, decide_false, Bool.not_true, Int.toNat_natCast, gd_none, hK, splice, coreS, Value.cells, Value.oneCell', Nat.reduceAdd, Nat.reduceSub, Nat.reduceMul, Nat.reduceLeDiff, Int.reduceEq, Nat.reduceEqDiff, H38Fs8]
    repeat (refine And.intro (by first | omega | (rw [inK_i64]; omega) | rfl | assumption | (exact sm1)) ?_)
    try simp only [b6, cE, vE, vW, q1, q2, q3, cell1, f5a, decide_true, decide_false, Bool.not_true, Int.toNat_natCast, gd_none, hK, splice, coreS, Value.cells, Value.oneCell', Nat.reduceAdd, Nat.reduceSub, Nat.reduceMul, Nat.reduceLeDiff, Int.reduceEq, Nat.reduceEqDiff, H38Fs8]
    rw [← hmo] at cA
    rw [hval]
    refine CallsH.mono (ckl33 m a2 n2 c2 L _ (hm.ext y6) (hv.ext y6) (by omega)) ?_
    rintro v hQ ⟨rfl, xQ⟩
    have yQ := y6.trans xQ
    have bQ := xQ.get b6
    simp only [bQ, splice, coreS, Value.cells, Value.oneCell', Nat.reduceAdd, Nat.reduceSub, Nat.reduceMul, Nat.reduceLeDiff, Int.reduceEq, Nat.reduceEqDiff, H38Fs8]
    rw [hval]
    refine CallsH.mono (ckl34 m a2 n2 c2 L _ (hm.ext yQ) (hv.ext yQ) (by omega)) ?_
    rintro v hR ⟨rfl, xR⟩
    have yR := yQ.trans xR
    have bR := xR.get bQ
    simp only [bR, decide_true, Bool.not_true, splice, coreS, Value.cells, Value.oneCell', Nat.reduceAdd, Nat.reduceSub, Nat.reduceMul, Nat.reduceLeDiff, Int.reduceEq, Nat.reduceEqDiff, H38Fs8]
    have cellR := ((I1.ext xQ).ext xR).cell (j := i) (by omega)
    rw [cA, hmo] at cellR
    refine WP_tree (by kernel_rfl) sta_ext (.quiet 0 (.quiet 1 (.quiet 2 (.quiet 3 (.quiet 4 (.quiet 5 (.quiet 6 (.quiet 7 (.quiet 8 (.quiet 9 (.quiet 10 (.quiet 11 (.quiet 12 (.quiet 13 (.quiet 14 (.quiet 15 (.quiet 16 (.quiet 17 (.quiet 18 (.quiet 19 (.quiet 20 (.quiet 21 (.quiet 22 (.quiet 23 (.quiet 24 (.quiet 25 (.quiet 26 (.quiet 27 (.quiet 28 (.quiet 29 (.quiet 30 (.quiet 31 (.quiet 32 (.quiet 33 (.quiet 34 (.quiet 35 (.quiet 36 (.quiet 37 (.quiet 38 (.fin)))))))))))))))))))))))))))))))))))))))) (by kernel_rfl) rfl (by kernel_rfl) ?_
    by_cases e0 : cklE m L = 0
    case neg =>
      simp only [bR, e0, decide_false, Bool.not_false, splice, gd_none, gtT_none, coreS, Value.cells, Value.oneCell', Nat.reduceAdd, Nat.reduceSub, Nat.reduceMul, Nat.reduceLeDiff, Int.reduceEq, Nat.reduceEqDiff, drawS, treeS, H38Fs8]
      refine cQ_ext _ (fun h' x' => CallsH.mono (works19 h') fun v h'' q => ⟨q.1, q.2⟩) ?_
      simp only [coreS, Value.cells, Value.oneCell', Nat.reduceAdd, Nat.reduceSub, Nat.reduceMul, Nat.reduceLeDiff, Int.reduceEq, Nat.reduceEqDiff, drawS, treeS, H38Fs8]
      refine execT_fin fun hD xD => ?_
      simp only [coreS, Value.cells, Value.oneCell', Nat.reduceAdd, Nat.reduceSub, Nat.reduceMul, Nat.reduceLeDiff, Int.reduceEq, Nat.reduceEqDiff, H38Fs8]
      exact yR.trans xD
    obtain ⟨_, hL2, hRL⟩ := ckl_right e0
    have cell2 := (hv.ext yR).cell (j := i) (by omega)
    have sm2 := hv.isSome (by omega)
    have hrun2 := OV.lab_run hok hRL (m.ov.wk i (oddL xs)) i (u, u) hi2
    generalize hLi : L.getD i 0 = z at cell2 hrun2
    by_cases hz : z < 0
    case pos =>
      simp only [bR, e0, cell2, hz, decide_true, Bool.not_true, splice, gd_none, gtT_none, Int.toNat_natCast, coreS, Value.cells, Value.oneCell', Nat.reduceAdd, Nat.reduceSub, Nat.reduceMul, Nat.reduceLeDiff, Int.reduceEq, Nat.reduceEqDiff, drawS, treeS, H38Fs8]
      repeat (refine And.intro (by first | omega | (rw [inK_i64]; omega) | rfl | assumption | (exact sm2)) ?_)
      try simp only [bR, e0, cell2, hz, decide_true, Bool.not_true, splice, gd_none, gtT_none, Int.toNat_natCast, coreS, Value.cells, Value.oneCell', Nat.reduceAdd, Nat.reduceSub, Nat.reduceMul, Nat.reduceLeDiff, Int.reduceEq, Nat.reduceEqDiff, drawS, treeS, H38Fs8]
      refine cQ_ext _ (fun h' x' => CallsH.mono (works19 h') fun v h'' q => ⟨q.1, q.2⟩) ?_
      simp only [coreS, Value.cells, Value.oneCell', Nat.reduceAdd, Nat.reduceSub, Nat.reduceMul, Nat.reduceLeDiff, Int.reduceEq, Nat.reduceEqDiff, drawS, treeS, H38Fs8]
      refine execT_fin fun hD xD => ?_
      simp only [coreS, Value.cells, Value.oneCell', Nat.reduceAdd, Nat.reduceSub, Nat.reduceMul, Nat.reduceLeDiff, Int.reduceEq, Nat.reduceEqDiff, H38Fs8]
      exact yR.trans xD
    have hz0 : 0 ≤ z := by omega
    have hz1 := hrun2 hz0 hrun
    rw [hK] at hz1
    obtain ⟨x1, hx1⟩ := Option.isSome_iff_exists.1 ((OV.most_some hmost).2.2 k (Nat.le_refl _))
    have hz2 : (k : Int) ≤ L.getD i 0 := OV.lab_lw hok hRL (L := fun i => L.getD i 0) hi2 (show 0 ≤ L.getD i 0 by rw [hLi]; exact hz0) hx1
    rw [hLi] at hz2
    simp only [bR, e0, cell2, cellR, hz, hz1, hz2, nat_nonneg k, decide_true, decide_false, Bool.not_true, splice, gd_none, gtT_none, Int.toNat_natCast, hK, coreS, Value.cells, Value.oneCell', Nat.reduceAdd, Nat.reduceSub, Nat.reduceMul, Nat.reduceLeDiff, Int.reduceEq, Nat.reduceEqDiff, drawS, treeS, H38Fs8]
    repeat (refine And.intro (by first | omega | (rw [inK_i64]; omega) | rfl | assumption | (exact sm2) | (exact sm1)) ?_)
    try simp only [bR, e0, cell2, cellR, hz, hz1, hz2, nat_nonneg k, decide_true, decide_false, Bool.not_true, splice, gd_none, gtT_none, Int.toNat_natCast, hK, coreS, Value.cells, Value.oneCell', Nat.reduceAdd, Nat.reduceSub, Nat.reduceMul, Nat.reduceLeDiff, Int.reduceEq, Nat.reduceEqDiff, drawS, treeS, H38Fs8]
    refine cQ_ext _ (fun h' x' => CallsH.mono (works19 h') fun v h'' q => ⟨q.1, q.2⟩) ?_
    simp only [coreS, Value.cells, Value.oneCell', Nat.reduceAdd, Nat.reduceSub, Nat.reduceMul, Nat.reduceLeDiff, Int.reduceEq, Nat.reduceEqDiff, drawS, treeS, H38Fs8]
    refine execT_fin fun hD xD => ?_
    simp only [coreS, Value.cells, Value.oneCell', Nat.reduceAdd, Nat.reduceSub, Nat.reduceMul, Nat.reduceLeDiff, Int.reduceEq, Nat.reduceEqDiff, H38Fs8]
    exact yR.trans xD
end Go.Proofs.YtafemfjhflfdeaaDoor
