/- HeatGrown returns true. -/
import Derived.Test.YtafemfjhflfdeaaDoorPB13
namespace Go.Proofs.YtafemfjhflfdeaaDoor
open Go Go.Proofs Go.Eng Go.Run Tab
set_option maxRecDepth 100000
set_option linter.unusedSimpArgs false
set_option linter.unusedVariables false
set_option linter.defProp false
set_option maxHeartbeats 8000000
set_option linter.defProp false
def H41Fs11 := (And.intro (And.intro (And.intro @agg22 (And.intro @agg24 @fo24_0)) (And.intro @inf22 (And.intro @inf24 @sz22))) (And.intro (And.intro @sz24 (And.intro @Tryd.underlying3 @Tryd.underlying5)) (And.intro @Tryd.underlying9 (And.intro @Tryd.underlying22 @Tryd.underlying63))))
theorem grown11 (m : MV) (w q r : Int) (a : Option Addr) (n c : Nat) (xs : List Int) (h : Eng.Heap) (hc : IntsV h m.a m.casts.length m.casts) (hw : IntsV h m.b m.waits.length m.waits) (hwb : 0 ≤ w ∧ w ≤ 255) (hqb : 0 ≤ q ∧ q ≤ 255) (hrb0 : 0 ≤ r ∧ r ≤ 255) (hnb : n = xs.length ∧ n ≤ c) (hrb : Row h a (bytesV xs)) (hmb : n ≤ 9223372036854775807) (hxb : ∀ x ∈ xs, 0 ≤ x ∧ x ≤ 255) :
    CallsH Tryd.prog 11 #[m.val, .int .u8 w, .int .u8 q, .int .u8 r, .slice a n c] h (fun v h' => v = .bool true ∧ Ext h h') := by
  (refine CallsH_of_exec Tryd.func11 rfl bod11 ?_; simp only [Tryd.ntmps11, Tryd.results11, coreS, stK_some, splice, Value.cells, Value.oneCell', Nat.reduceAdd, Nat.reduceSub, Nat.reduceMul, Nat.reduceLeDiff, Int.reduceEq, Nat.reduceEqDiff, H41Fs11])
  have hb := push_new (h := h) (o := .cells #[.slice m.a m.casts.length m.ca, .slice m.b m.waits.length m.cb, .int .i64 m.lo, .int .i64 m.hi] 24)
  have y0 : Ext h (h.push (.cells #[.slice m.a m.casts.length m.ca, .slice m.b m.waits.length m.cb, .int .i64 m.lo, .int .i64 m.hi] 24)) := (Ext.refl h).push _
  have hval : Value.agg #[.slice m.a m.casts.length m.ca, .slice m.b m.waits.length m.cb, .int .i64 m.lo, .int .i64 m.hi] = m.val := rfl
  have works : ∀ {h2 : Eng.Heap}, Ext h h2 → CallsH Tryd.prog 19 #[] h2 (fun v h' => v = .bool true ∧ Ext h h') := fun x => CallsH.mono (works19 _) fun v h' q => ⟨q.1, x.trans q.2⟩
  have b0 := hb
  refine CallsH.mono (fine47 m _ (hc.ext y0) (hw.ext y0)) ?_
  rintro v h1 ⟨rfl, x1⟩
  have y1 := y0.trans x1
  have b1 := x1.get b0
  by_cases hf : okM m = true
  case neg =>
    have hf2 : okM m = false := by simpa using hf
    simp only [hf2, Bool.not_false, gd_none, coreS, Value.cells, Value.oneCell', Nat.reduceAdd, Nat.reduceSub, Nat.reduceMul, Nat.reduceLeDiff, Int.reduceEq, Nat.reduceEqDiff, H41Fs11]
    refine CallsH.mono (works y1) ?_
    rintro v hW ⟨rfl, xW⟩
    simp only [coreS, Value.cells, Value.oneCell', Nat.reduceAdd, Nat.reduceSub, Nat.reduceMul, Nat.reduceLeDiff, Int.reduceEq, Nat.reduceEqDiff, H41Fs11]
    exact xW
  obtain ⟨hg, hc0⟩ := okM_iff.1 hf
  have hm : m.ok h := ⟨hc, hw, by omega, by omega⟩
  have gd := good_of hc0
  have h16 := (chk_pos hc0).1
  have hok := gd.ok
  have hnn : m.ov.n = m.casts.length := rfl
  by_cases hl : 100 < n
  case pos =>
    have hl2 : (100 : Int) < n := by omega
    simp only [hf, hl2, decide_true, Bool.not_true, gd_none, coreS, Value.cells, Value.oneCell', Nat.reduceAdd, Nat.reduceSub, Nat.reduceMul, Nat.reduceLeDiff, Int.reduceEq, Nat.reduceEqDiff, H41Fs11]
    refine CallsH.mono (works y1) ?_
    rintro v hW ⟨rfl, xW⟩
    simp only [coreS, Value.cells, Value.oneCell', Nat.reduceAdd, Nat.reduceSub, Nat.reduceMul, Nat.reduceLeDiff, Int.reduceEq, Nat.reduceEqDiff, H41Fs11]
    exact xW
  have hl2 : ¬ (100 : Int) < n := by omega
  have hnb1 := hnb.1
  obtain ⟨i, hi, ei⟩ := tmod_idx (w := w) (c := (m.casts.length : Int)) hwb.1 (by omega)
  obtain ⟨k, hk, ek⟩ := tmod_idx (w := q) (c := 16) hqb.1 (by omega)
  obtain ⟨j, hj, ej⟩ := tmod_idx (w := r) (c := 15) hrb0.1 (by omega)
  have hi2 : i < m.casts.length := by omega
  have hk2 : k ≤ 30 := by omega
  have hj2 : j ≤ 30 := by omega
  have hkj : k + j ≤ 30 := by omega
  have hol : (oddL xs).length ≤ 100 := by rw [oddL_length]; omega
  simp only [b1, hf, hl2, ei, ek, ej, decide_false, Bool.not_true, gd_none, splice, coreS, Value.cells, Value.oneCell', Nat.reduceAdd, Nat.reduceSub, Nat.reduceMul, Nat.reduceLeDiff, Int.reduceEq, Nat.reduceEqDiff, H41Fs11]
  repeat (refine And.intro (by first | omega | (rw [inK_i64]; omega) | rfl | assumption | (decide)) ?_)
  try simp only [b1, ei, ek, ej, splice, coreS, Value.cells, Value.oneCell', Nat.reduceAdd, Nat.reduceSub, Nat.reduceMul, Nat.reduceLeDiff, Int.reduceEq, Nat.reduceEqDiff, H41Fs11]
  try rw [hval]
  refine CallsH.mono (working48 m gd i a n c xs _ (hm.ext y1) hi2 hnb1 (hrb.ext y1) hxb (by omega)) ?_
  rintro v h2 ⟨rfl, x2⟩
  have y2 := y1.trans x2
  have b2 := x2.get b1
  obtain ⟨u, hu, hrun, hlen, rE, rA, rK, rS⟩ := wk_vals hc0 hi2 hol
  generalize m.ov.wk i (oddL xs) = p at hrun hlen rE rA rK rS ⊢
  have hp500 : p.length ≤ 500 := by omega
  obtain ⟨x0, hx0, hx1⟩ := OV.lw_least hok p (s := (i, i)) ⟨hi2, hi2⟩ hrun
  have hcp := OV.casts_le p
  have psz : ((planS p).size : Int) = p.length := by rw [planS_size]
  obtain ⟨K, hK⟩ : ∃ K, OV.casts p = K := ⟨_, rfl⟩
  rw [hK] at hx0 hx1 hcp rK
  simp only [b2, splice, coreS, Value.cells, Value.oneCell', Nat.reduceAdd, Nat.reduceSub, Nat.reduceMul, Nat.reduceLeDiff, Int.reduceEq, Nat.reduceEqDiff, H41Fs11]
  try rw [hval]
  refine CallsH.mono (run20 m i (planS p) _ (hm.ext y2) rS) ?_
  rintro v h3 ⟨rfl, x3⟩
  have y3 := y2.trans x3
  have b3 := x3.get b2
  have q1 : ¬ ((p.length : Int) < K) := by omega
  obtain ⟨bk, hbk⟩ : ∃ bk, decide ((K : Int) ≤ 30) = bk := ⟨_, rfl⟩
  simp only [b3, rE, rA, rK, psz, q1, hbk, decide_false, decide_true, Bool.not_true, gd_none, splice, coreS, Value.cells, Value.oneCell', Nat.reduceAdd, Nat.reduceSub, Nat.reduceMul, Nat.reduceLeDiff, Int.reduceEq, Nat.reduceEqDiff, H41Fs11]
  refine cd_cut [10, 18, 19, 70, 71, 72, 73, 74, 75, 76, 77, 78, 79, 80, 81, 82, 83, 84, 85, 86, 87] (fun g h' => Ext h3 h') ?_ ?_
  · cases bk with
    | true =>
      have hK30 : K ≤ 30 := by have := of_decide_eq_true hbk; omega
      obtain ⟨cE, cW, _⟩ := ce_s hc0 hi2 hK30 hx0
      simp only [b3, splice, coreS, Value.cells, Value.oneCell', Nat.reduceAdd, Nat.reduceSub, Nat.reduceMul, Nat.reduceLeDiff, Int.reduceEq, Nat.reduceEqDiff, H41Fs11]
      try rw [hval]
      refine CallsH.mono (fewest24 m i K _ (hm.ext y3)) ?_
      rintro v h4 ⟨rfl, x4⟩
      have y4 := y3.trans x4
      have b4 := x4.get b3
      have q2 : ¬ ((p.length : Int) - K < x0) := by omega
      simp only [b4, cE, cW, psz, q2, decide_true, decide_false, Bool.not_true, splice, coreS, Value.cells, Value.oneCell', Nat.reduceAdd, Nat.reduceSub, Nat.reduceMul, Nat.reduceLeDiff, Int.reduceEq, Nat.reduceEqDiff, H41Fs11]
      repeat (refine And.intro (by first | omega | (rw [inK_i64]; omega) | rfl | assumption | (decide)) ?_)
      try simp only [b4, cE, cW, psz, q2, decide_true, decide_false, Bool.not_true, splice, coreS, Value.cells, Value.oneCell', Nat.reduceAdd, Nat.reduceSub, Nat.reduceMul, Nat.reduceLeDiff, Int.reduceEq, Nat.reduceEqDiff, H41Fs11]
      exact midK_mk (by kernel_rfl) x4
    | false =>
      simp only [b3, splice, coreS, Value.cells, Value.oneCell', Nat.reduceAdd, Nat.reduceSub, Nat.reduceMul, Nat.reduceLeDiff, Int.reduceEq, Nat.reduceEqDiff, H41Fs11]
      exact midK_mk (by kernel_rfl) (Ext.refl _)
  rintro g h4 x4
  have y4 := y3.trans x4
  have b4 := x4.get b3
  simp only [b4, splice, coreS, Value.cells, Value.oneCell', Nat.reduceAdd, Nat.reduceSub, Nat.reduceMul, Nat.reduceLeDiff, Int.reduceEq, Nat.reduceEqDiff, H41Fs11]
  try rw [hval]
  refine CallsH.mono (fewest24 m i k _ (hm.ext y4)) ?_
  rintro v h5 ⟨rfl, x5⟩
  have y5 := y4.trans x5
  have b5 := x5.get b4
  simp only [b5, splice, coreS, Value.cells, Value.oneCell', Nat.reduceAdd, Nat.reduceSub, Nat.reduceMul, Nat.reduceLeDiff, Int.reduceEq, Nat.reduceEqDiff, H41Fs11]
  try rw [hval]
  refine CallsH.mono (plan26 m i k _ (hm.ext y5)) ?_
  rintro v h6 ⟨rfl, x6⟩
  have y6 := y5.trans x6
  have b6 := x6.get b5
  have ekj : (k : Int) + (j : Int) = ((k + j : Nat) : Int) := by omega
  simp only [b6, ekj, decide_true, Bool.not_true, splice, coreS, Value.cells, Value.oneCell', Nat.reduceAdd, Nat.reduceSub, Nat.reduceMul, Nat.reduceLeDiff, Int.reduceEq, Nat.reduceEqDiff, H41Fs11]
  repeat (refine And.intro (by first | omega | (rw [inK_i64]; omega) | rfl | assumption | (decide)) ?_)
  try simp only [b6, ekj, decide_true, Bool.not_true, splice, coreS, Value.cells, Value.oneCell', Nat.reduceAdd, Nat.reduceSub, Nat.reduceMul, Nat.reduceLeDiff, Int.reduceEq, Nat.reduceEqDiff, H41Fs11]
  try rw [hval]
  refine CallsH.mono (fewest24 m i ((k + j : Nat) : Int) _ (hm.ext y6)) ?_
  rintro v h7 ⟨rfl, x7⟩
  have y7 := y6.trans x7
  have b7 := x7.get b6
  cases hlw : m.ov.lw k (i, i) with
  | none =>
    have hlz : m.ov.lw (k + j) (i, i) = none := by
      cases hz : m.ov.lw (k + j) (i, i) with
      | none => rfl
      | some z =>
        obtain ⟨y, hy, _⟩ := OV.lw_mono hok (s := (i, i)) ⟨hi2, hi2⟩ hz (j := k) (by omega)
        rw [hlw] at hy; cases hy
    obtain ⟨cE, cW, cP⟩ := ce_n hc0 hi2 hk2 hlw
    obtain ⟨zE, zW, zP⟩ := ce_n hc0 hi2 hkj hlz
    simp only [b7, cE, cW, cP, zE, zW, decide_true, Bool.not_true, splice, coreS, Value.cells, Value.oneCell', Nat.reduceAdd, Nat.reduceSub, Nat.reduceMul, Nat.reduceLeDiff, Int.reduceEq, Nat.reduceEqDiff, H41Fs11]
    refine CallsH.mono (works y7) ?_
    rintro v hW ⟨rfl, xW⟩
    simp only [coreS, Value.cells, Value.oneCell', Nat.reduceAdd, Nat.reduceSub, Nat.reduceMul, Nat.reduceLeDiff, Int.reduceEq, Nat.reduceEqDiff, H41Fs11]
    exact xW
  | some x =>
    obtain ⟨cE, cW, cP⟩ := ce_s hc0 hi2 hk2 hlw
    obtain ⟨⟨t, ht⟩, hpc, hpl⟩ := OV.pl_run hok (s := (i, i)) ⟨hi2, hi2⟩ hlw
    have hxle := lw_le gd h16.2 (s := (i, i)) ⟨hi2, hi2⟩ hlw
    have htt := OV.run_same hok ht
    obtain ⟨v, v2⟩ := t
    obtain rfl : v2 = v := congrArg Prod.snd htt
    have hv2 : v2 < m.casts.length := run_lt hok hi2 ht
    have hp5 : (m.ov.pl k (i, i)).length ≤ 500 := by omega
    obtain ⟨sE, sA, sK⟩ := run_s hc0 hi2 hp5 ht
    rw [hpc] at sK
    have hadd := fun y (hy : m.ov.lw j (v2, v2) = some y) => OV.lw_add hok (s := (i, i)) ⟨hi2, hi2⟩ hlw ht hy
    generalize m.ov.pl k (i, i) = P at cP hpl ht hp5 sE sA sK hadd
    have Psz : ((planS P).size : Int) = (k : Int) + x := by rw [planS_size, hpl]; omega
    have q3 : (k : Int) + x - k = x := by omega
    have q4 := neg_nat v2
    have q5 : ¬ ((m.casts.length : Int) ≤ v2) := by omega
    have hzz : (ceE m i ((k + j : Nat) : Int) = 22 ∧ m.ov.lw (k + j) (i, i) = none) ∨ (∃ z, ceE m i ((k + j : Nat) : Int) = 0 ∧ ceW m i ((k + j : Nat) : Int) = (z : Nat) ∧ m.ov.lw (k + j) (i, i) = some z ∧ x ≤ z) := by
      cases hz : m.ov.lw (k + j) (i, i) with
      | none => exact .inl ⟨(ce_n hc0 hi2 hkj hz).1, rfl⟩
      | some z =>
        obtain ⟨y, hy, hyz⟩ := OV.lw_mono hok (s := (i, i)) ⟨hi2, hi2⟩ hz (j := k) (by omega)
        rw [hlw] at hy
        cases hy
        obtain ⟨e1, e2, _⟩ := ce_s hc0 hi2 hkj hz
        exact .inr ⟨z, e1, e2, rfl, hyz⟩
    simp only [b7, cE, cW, cP, decide_true, Bool.not_true, splice, coreS, Value.cells, Value.oneCell', Nat.reduceAdd, Nat.reduceSub, Nat.reduceMul, Nat.reduceLeDiff, Int.reduceEq, Nat.reduceEqDiff, H41Fs11]
    try rw [hval]
    refine CallsH.mono (run20 m i (planS P) _ (hm.ext y7) (by rw [planS_size]; omega)) ?_
    rintro v h8 ⟨rfl, x8⟩
    have y8 := y7.trans x8
    have b8 := x8.get b7
    rcases hzz with ⟨zE, hzn⟩ | ⟨z, zE, zW, hz, hxz⟩
    ·
      simp only [b8, sE, sA, sK, zE, Psz, q3, q4, q5, decide_true, decide_false, Bool.not_true, gd_none, splice, coreS, Value.cells, Value.oneCell', Nat.reduceAdd, Nat.reduceSub, Nat.reduceMul, Nat.reduceLeDiff, Int.reduceEq, Nat.reduceEqDiff, H41Fs11]
      repeat (refine And.intro (by first | omega | (rw [inK_i64]; omega) | rfl | assumption | (decide)) ?_)
      try simp only [b8, sE, sA, sK, zE, Psz, q3, q4, q5, decide_true, decide_false, Bool.not_true, gd_none, splice, coreS, Value.cells, Value.oneCell', Nat.reduceAdd, Nat.reduceSub, Nat.reduceMul, Nat.reduceLeDiff, Int.reduceEq, Nat.reduceEqDiff, H41Fs11]
      try rw [hval]
      refine CallsH.mono (fewest24 m v2 j _ (hm.ext y8)) ?_
      rintro v h9 ⟨rfl, x9⟩
      have y9 := y8.trans x9
      have b9 := x9.get b8
      cases hlj : m.ov.lw j (v2, v2) with
      | none =>
        obtain ⟨yE, yW, _⟩ := ce_n hc0 hv2 hj2 hlj
        simp only [b9, yE, decide_true, decide_false, Bool.not_true, Bool.not_false, gd_none, zE, splice, coreS, Value.cells, Value.oneCell', Nat.reduceAdd, Nat.reduceSub, Nat.reduceMul, Nat.reduceLeDiff, Int.reduceEq, Nat.reduceEqDiff, H41Fs11]
        refine CallsH.mono (works y9) ?_
        rintro v hW ⟨rfl, xW⟩
        simp only [coreS, Value.cells, Value.oneCell', Nat.reduceAdd, Nat.reduceSub, Nat.reduceMul, Nat.reduceLeDiff, Int.reduceEq, Nat.reduceEqDiff, H41Fs11]
        exact xW
      | some y =>
        obtain ⟨z9, hz9, hz8⟩ := hadd y hlj
        rw [hzn] at hz9; cases hz9
    ·
      have q6 : ¬ ((z : Int) < x) := by omega
      simp only [b8, sE, sA, sK, zE, Psz, q3, q4, q5, decide_true, decide_false, Bool.not_true, gd_none, zW, q6, splice, coreS, Value.cells, Value.oneCell', Nat.reduceAdd, Nat.reduceSub, Nat.reduceMul, Nat.reduceLeDiff, Int.reduceEq, Nat.reduceEqDiff, H41Fs11]
      repeat (refine And.intro (by first | omega | (rw [inK_i64]; omega) | rfl | assumption | (decide)) ?_)
      try simp only [b8, sE, sA, sK, zE, Psz, q3, q4, q5, decide_true, decide_false, Bool.not_true, gd_none, zW, q6, splice, coreS, Value.cells, Value.oneCell', Nat.reduceAdd, Nat.reduceSub, Nat.reduceMul, Nat.reduceLeDiff, Int.reduceEq, Nat.reduceEqDiff, H41Fs11]
      try rw [hval]
      refine CallsH.mono (fewest24 m v2 j _ (hm.ext y8)) ?_
      rintro v h9 ⟨rfl, x9⟩
      have y9 := y8.trans x9
      have b9 := x9.get b8
      cases hlj : m.ov.lw j (v2, v2) with
      | none =>
        obtain ⟨yE, yW, _⟩ := ce_n hc0 hv2 hj2 hlj
        simp only [b9, yE, decide_true, decide_false, Bool.not_true, Bool.not_false, gd_none, zE, splice, coreS, Value.cells, Value.oneCell', Nat.reduceAdd, Nat.reduceSub, Nat.reduceMul, Nat.reduceLeDiff, Int.reduceEq, Nat.reduceEqDiff, H41Fs11]
        refine CallsH.mono (works y9) ?_
        rintro v hW ⟨rfl, xW⟩
        simp only [coreS, Value.cells, Value.oneCell', Nat.reduceAdd, Nat.reduceSub, Nat.reduceMul, Nat.reduceLeDiff, Int.reduceEq, Nat.reduceEqDiff, H41Fs11]
        exact xW
      | some y =>
        obtain ⟨z9, hz9, hz8⟩ := hadd y hlj
        rw [hz] at hz9; cases hz9
        obtain ⟨yE, yW, _⟩ := ce_s hc0 hv2 hj2 hlj
        have hyle := lw_le gd h16.2 (s := (v2, v2)) ⟨hv2, hv2⟩ hlj
        have q7 : (z : Int) ≤ (x : Int) + y := by omega
        simp only [b9, yE, yW, zE, zW, q7, decide_true, decide_false, Bool.not_true, Bool.not_false, gd_none, splice, coreS, Value.cells, Value.oneCell', Nat.reduceAdd, Nat.reduceSub, Nat.reduceMul, Nat.reduceLeDiff, Int.reduceEq, Nat.reduceEqDiff, H41Fs11]
        repeat (refine And.intro (by first | omega | (rw [inK_i64]; omega) | rfl | assumption | (decide)) ?_)
        try simp only [b9, yE, yW, zE, zW, q7, decide_true, decide_false, Bool.not_true, Bool.not_false, gd_none, splice, coreS, Value.cells, Value.oneCell', Nat.reduceAdd, Nat.reduceSub, Nat.reduceMul, Nat.reduceLeDiff, Int.reduceEq, Nat.reduceEqDiff, H41Fs11]
        refine CallsH.mono (works y9) ?_
        rintro v hW ⟨rfl, xW⟩
        simp only [coreS, Value.cells, Value.oneCell', Nat.reduceAdd, Nat.reduceSub, Nat.reduceMul, Nat.reduceLeDiff, Int.reduceEq, Nat.reduceEqDiff, H41Fs11]
        exact xW
end Go.Proofs.YtafemfjhflfdeaaDoor
