/- HeatEither returns true. -/
import Derived.Test.YtafemfjhflfdeaaDoorPB13
namespace Go.Proofs.YtafemfjhflfdeaaDoor
open Go Go.Proofs Go.Eng Go.Run Tab
set_option maxRecDepth 100000
set_option linter.unusedSimpArgs false
set_option linter.unusedVariables false
set_option linter.defProp false
set_option maxHeartbeats 8000000
set_option linter.defProp false
def H39Fs9 := (And.intro (And.intro (And.intro @agg22 (And.intro @agg24 @agg45)) (And.intro (And.intro @fo24_0 @inf22) (And.intro @inf24 @inf45))) (And.intro (And.intro @sz22 (And.intro @sz24 @sz45)) (And.intro (And.intro @zero45 @Tryd.underlying3) (And.intro @Tryd.underlying5 @Tryd.underlying22))))
theorem either9 (m : MV) (w q : Int) (h : Eng.Heap) (hc : IntsV h m.a m.casts.length m.casts) (hw : IntsV h m.b m.waits.length m.waits) (hwb : 0 ≤ w ∧ w ≤ 255) (hqb : 0 ≤ q ∧ q ≤ 255) :
    CallsH Tryd.prog 9 #[m.val, .int .u8 w, .int .u8 q] h (fun v h' => v = .bool true ∧ Ext h h') := by
  (refine CallsH_of_exec Tryd.func9 rfl bod9 ?_; simp only [Tryd.ntmps9, Tryd.results9, coreS, stK_some, splice, Value.cells, Value.oneCell', Nat.reduceAdd, Nat.reduceSub, Nat.reduceMul, Nat.reduceLeDiff, Int.reduceEq, Nat.reduceEqDiff, H39Fs9])
  have hb := push_new (h := h) (o := .cells #[.slice m.a m.casts.length m.ca, .slice m.b m.waits.length m.cb, .int .i64 m.lo, .int .i64 m.hi] 24)
  have y0 : Ext h (h.push (.cells #[.slice m.a m.casts.length m.ca, .slice m.b m.waits.length m.cb, .int .i64 m.lo, .int .i64 m.hi] 24)) := (Ext.refl h).push _
  have hval : Value.agg #[.slice m.a m.casts.length m.ca, .slice m.b m.waits.length m.cb, .int .i64 m.lo, .int .i64 m.hi] = m.val := rfl
  have works : ∀ {h2 : Eng.Heap}, Ext h h2 → CallsH Tryd.prog 19 #[] h2 (fun v h' => v = .bool true ∧ Ext h h') := fun x => CallsH.mono (works19 _) fun v h' q => ⟨q.1, x.trans q.2⟩
  have b0 := hb
  refine CallsH.mono (fine47 m _ (hc.ext y0) (hw.ext y0)) ?_
  rintro v h1 ⟨rfl, x1⟩
  have y1 := y0.trans x1
  have b1 := x1.get b0
  by_cases hf : okM m = true
  case neg =>
    have hf2 : okM m = false := by simpa using hf
    simp only [hf2, Bool.not_false, gd_none, coreS, Value.cells, Value.oneCell', Nat.reduceAdd, Nat.reduceSub, Nat.reduceMul, Nat.reduceLeDiff, Int.reduceEq, Nat.reduceEqDiff, H39Fs9]
    refine CallsH.mono (works y1) ?_
    rintro v hW ⟨rfl, xW⟩
    simp only [coreS, Value.cells, Value.oneCell', Nat.reduceAdd, Nat.reduceSub, Nat.reduceMul, Nat.reduceLeDiff, Int.reduceEq, Nat.reduceEqDiff, H39Fs9]
    exact xW
  obtain ⟨hg, hc0⟩ := okM_iff.1 hf
  have hm : m.ok h := ⟨hc, hw, by omega, by omega⟩
  have gd := good_of hc0
  have h16 := (chk_pos hc0).1
  have hok := gd.ok
  have hnn : m.ov.n = m.casts.length := rfl
  obtain ⟨i, hi, ei⟩ := tmod_idx (w := w) (c := (m.casts.length : Int)) hwb.1 (by omega)
  obtain ⟨k, hk, ek⟩ := tmod_idx (w := q) (c := 31) hqb.1 (by omega)
  have hi2 : i < m.casts.length := by omega
  have hk2 : k ≤ 30 := by omega
  simp only [b1, hf, ei, ek, decide_false, Bool.not_true, gd_none, splice, coreS, Value.cells, Value.oneCell', Nat.reduceAdd, Nat.reduceSub, Nat.reduceMul, Nat.reduceLeDiff, Int.reduceEq, Nat.reduceEqDiff, H39Fs9]
  repeat (refine And.intro (by first | omega | (rw [inK_i64]; omega) | rfl | assumption | (decide)) ?_)
  try simp only [b1, ei, ek, splice, coreS, Value.cells, Value.oneCell', Nat.reduceAdd, Nat.reduceSub, Nat.reduceMul, Nat.reduceLeDiff, Int.reduceEq, Nat.reduceEqDiff, H39Fs9]
  try rw [hval]
  refine CallsH.mono (most28 m i _ (hm.ext y1)) ?_
  rintro v h2 ⟨rfl, x2⟩
  have y2 := y1.trans x2
  have b2 := x2.get b1
  cases hmost : m.ov.most i with
  | some k0 =>
    obtain ⟨vE, vW, rE, rV⟩ := mo_s hc0 hi2 hmost
    obtain ⟨hk0, hk1, hk3⟩ := OV.most_some hmost
    simp only [b2, vE, vW, splice, coreS, Value.cells, Value.oneCell', Nat.reduceAdd, Nat.reduceSub, Nat.reduceMul, Nat.reduceLeDiff, Int.reduceEq, Nat.reduceEqDiff, H39Fs9]
    try rw [hval]
    refine CallsH.mono (round39 m i _ (hm.ext y2)) ?_
    rintro v h3 ⟨hR, x3⟩
    have y3 := y2.trans x3
    have b3 := x3.get b2
    obtain rfl := rov_ne (by rw [rE]; decide) hR
    simp only [b3, rE, splice, coreS, Value.cells, Value.oneCell', Nat.reduceAdd, Nat.reduceSub, Nat.reduceMul, Nat.reduceLeDiff, Int.reduceEq, Nat.reduceEqDiff, H39Fs9]
    try rw [hval]
    refine CallsH.mono (rate37 m i _ (hm.ext y3)) ?_
    rintro v h4 ⟨rfl, x4⟩
    have y4 := y3.trans x4
    have b4 := x4.get b3
    simp only [b4, rV, rE, ratV, splice, coreS, Value.cells, Value.oneCell', Nat.reduceAdd, Nat.reduceSub, Nat.reduceMul, Nat.reduceLeDiff, Int.reduceEq, Nat.reduceEqDiff, H39Fs9]
    refine stK_abs push_new (by simp) fun h5 g5 u5 => ?_
    simp only [splice] at g5
    have x5 : Ext h4 h5 := u5.ext ((Ext.refl h4).push _) (Nat.le_refl _)
    have y5 := y4.trans x5
    have b5 := x5.get b4
    simp only [b5, splice, coreS, Value.cells, Value.oneCell', Nat.reduceAdd, Nat.reduceSub, Nat.reduceMul, Nat.reduceLeDiff, Int.reduceEq, Nat.reduceEqDiff, H39Fs9]
    try rw [hval]
    refine CallsH.mono (fewest24 m i k _ (hm.ext y5)) ?_
    rintro v h6 ⟨rfl, x6⟩
    have y6 := y5.trans x6
    have b6 := x6.get b5
    have q1 := neg_nat k0
    have q2 : ¬ (m.casts.length : Int) < k0 := by omega
    have f1 : ∀ h' : Eng.Heap, Ext h h' → CallsH Tryd.prog 24 #[m.val, .int .i64 i, .int .i64 k0] h' (fun v h'' => (∃ z, v = .tuple #[.int .i64 z, .int .i64 0]) ∧ Ext h' h'') := fun h' y => by
      obtain ⟨x1, hx1⟩ := Option.isSome_iff_exists.1 (hk3 k0 (Nat.le_refl _))
      obtain ⟨e1, e2, _⟩ := ce_s hc0 hi2 (by omega) hx1
      exact CallsH.mono (fewest24 m i k0 _ (hm.ext y)) fun v h'' q => ⟨⟨_, by have := q.1; rw [e1] at this; exact this⟩, q.2⟩
    have f2 : ∀ h' : Eng.Heap, Ext h h' → CallsH Tryd.prog 24 #[m.val, .int .i64 i, .int .i64 ((k0 : Int) + 1)] h' (fun v h'' => (∃ z, v = .tuple #[.int .i64 z, .int .i64 22]) ∧ Ext h' h'') := fun h' y => by
      obtain ⟨e1, e2, _⟩ := ce_n hc0 hi2 (k := k0 + 1) (by omega) hk1
      exact CallsH.mono (fewest24 m i ((k0 + 1 : Nat) : Int) _ (hm.ext y)) fun v h'' q => ⟨⟨_, by have := q.1; rw [e1] at this; exact this⟩, q.2⟩
    have hcase : (ceE m i k = 0 ∧ (k : Int) ≤ k0) ∨ (ceE m i k = 22 ∧ ¬ (k : Int) ≤ k0) := by
      by_cases hle : k ≤ k0
      · obtain ⟨x1, hx1⟩ := Option.isSome_iff_exists.1 (hk3 k hle)
        exact .inl ⟨(ce_s hc0 hi2 hk2 hx1).1, by omega⟩
      · refine .inr ⟨(ce_n hc0 hi2 hk2 ?_).1, by omega⟩
        cases hx : m.ov.lw k (i, i) with
        | none => rfl
        | some x => exact absurd ((OV.most_iff hok hi2 hmost k).1 (by rw [hx]; rfl)) hle
    rcases hcase with ⟨q3, q4⟩ | ⟨q3, q4⟩
    ·
      simp only [b6, q1, q2, q3, q4, decide_true, decide_false, Bool.not_true, gd_none, splice, coreS, Value.cells, Value.oneCell', Nat.reduceAdd, Nat.reduceSub, Nat.reduceMul, Nat.reduceLeDiff, Int.reduceEq, Nat.reduceEqDiff, H39Fs9]
      refine neBoolW Tryd.underlying4 rfl rfl ?_
      simp only [b6, q1, q2, q3, q4, BEq.rfl, decide_true, decide_false, Bool.not_true, gd_none, splice, coreS, Value.cells, Value.oneCell', Nat.reduceAdd, Nat.reduceSub, Nat.reduceMul, Nat.reduceLeDiff, Int.reduceEq, Nat.reduceEqDiff, H39Fs9]
      repeat (refine And.intro (by first | omega | (rw [inK_i64]; omega) | rfl | assumption | (decide)) ?_)
      try rw [hval]
      refine CallsH.mono (f1 _ y6) ?_
      rintro v h7 ⟨⟨z1, rfl⟩, x7⟩
      have y7 := y6.trans x7
      have b7 := x7.get b6
      simp only [b7, splice, coreS, Value.cells, Value.oneCell', Nat.reduceAdd, Nat.reduceSub, Nat.reduceMul, Nat.reduceLeDiff, Int.reduceEq, Nat.reduceEqDiff, H39Fs9]
      repeat (refine And.intro (by first | omega | (rw [inK_i64]; omega) | rfl | assumption | (decide)) ?_)
      try rw [hval]
      refine CallsH.mono (f2 _ y7) ?_
      rintro v h8 ⟨⟨z2, rfl⟩, x8⟩
      have y8 := y7.trans x8
      have b8 := x8.get b7
      simp only [b8, decide_true, splice, coreS, Value.cells, Value.oneCell', Nat.reduceAdd, Nat.reduceSub, Nat.reduceMul, Nat.reduceLeDiff, Int.reduceEq, Nat.reduceEqDiff, H39Fs9]
      refine CallsH.mono (works y8) ?_
      rintro v hW ⟨rfl, xW⟩
      simp only [coreS, Value.cells, Value.oneCell', Nat.reduceAdd, Nat.reduceSub, Nat.reduceMul, Nat.reduceLeDiff, Int.reduceEq, Nat.reduceEqDiff, H39Fs9]
      exact xW
    ·
      simp only [b6, q1, q2, q3, q4, decide_true, decide_false, Bool.not_true, gd_none, splice, coreS, Value.cells, Value.oneCell', Nat.reduceAdd, Nat.reduceSub, Nat.reduceMul, Nat.reduceLeDiff, Int.reduceEq, Nat.reduceEqDiff, H39Fs9]
      refine neBoolW Tryd.underlying4 rfl rfl ?_
      simp only [b6, q1, q2, q3, q4, BEq.rfl, decide_true, decide_false, Bool.not_true, gd_none, splice, coreS, Value.cells, Value.oneCell', Nat.reduceAdd, Nat.reduceSub, Nat.reduceMul, Nat.reduceLeDiff, Int.reduceEq, Nat.reduceEqDiff, H39Fs9]
      repeat (refine And.intro (by first | omega | (rw [inK_i64]; omega) | rfl | assumption | (decide)) ?_)
      try rw [hval]
      refine CallsH.mono (f1 _ y6) ?_
      rintro v h7 ⟨⟨z1, rfl⟩, x7⟩
      have y7 := y6.trans x7
      have b7 := x7.get b6
      simp only [b7, splice, coreS, Value.cells, Value.oneCell', Nat.reduceAdd, Nat.reduceSub, Nat.reduceMul, Nat.reduceLeDiff, Int.reduceEq, Nat.reduceEqDiff, H39Fs9]
      repeat (refine And.intro (by first | omega | (rw [inK_i64]; omega) | rfl | assumption | (decide)) ?_)
      try rw [hval]
      refine CallsH.mono (f2 _ y7) ?_
      rintro v h8 ⟨⟨z2, rfl⟩, x8⟩
      have y8 := y7.trans x8
      have b8 := x8.get b7
      simp only [b8, decide_true, splice, coreS, Value.cells, Value.oneCell', Nat.reduceAdd, Nat.reduceSub, Nat.reduceMul, Nat.reduceLeDiff, Int.reduceEq, Nat.reduceEqDiff, H39Fs9]
      refine CallsH.mono (works y8) ?_
      rintro v hW ⟨rfl, xW⟩
      simp only [coreS, Value.cells, Value.oneCell', Nat.reduceAdd, Nat.reduceSub, Nat.reduceMul, Nat.reduceLeDiff, Int.reduceEq, Nat.reduceEqDiff, H39Fs9]
      exact xW
  | none =>
    obtain ⟨vE, vW, rE, rV⟩ := mo_n hc0 hi2 hmost
    simp only [b2, vE, vW, splice, coreS, Value.cells, Value.oneCell', Nat.reduceAdd, Nat.reduceSub, Nat.reduceMul, Nat.reduceLeDiff, Int.reduceEq, Nat.reduceEqDiff, H39Fs9]
    try rw [hval]
    refine CallsH.mono (round39 m i _ (hm.ext y2)) ?_
    rintro v h3 ⟨hR, x3⟩
    have y3 := y2.trans x3
    have b3 := x3.get b2
    obtain ⟨p, q2, u, rfl, hp1, hp2, hp3, hp4⟩ := rov_zero rE hR
    rw [Int.toNat_natCast] at hp1
    have hcr := ckr_of (m := m) (x := i) (p := p) (q := q2) (u := u) (opn_v hc0 hi2) (by rw [Int.toNat_natCast]; exact hp1) hp2 hp3 (run_lt hok hi2 hp1) (by omega) (by omega)
    simp only [b3, splice, coreS, Value.cells, Value.oneCell', Nat.reduceAdd, Nat.reduceSub, Nat.reduceMul, Nat.reduceLeDiff, Int.reduceEq, Nat.reduceEqDiff, H39Fs9]
    try rw [hval]
    refine CallsH.mono (rate37 m i _ (hm.ext y3)) ?_
    rintro v h4 ⟨rfl, x4⟩
    have y4 := y3.trans x4
    have b4 := x4.get b3
    simp only [b4, rV, rE, ratV, splice, coreS, Value.cells, Value.oneCell', Nat.reduceAdd, Nat.reduceSub, Nat.reduceMul, Nat.reduceLeDiff, Int.reduceEq, Nat.reduceEqDiff, H39Fs9]
    refine stK_abs push_new (by simp) fun h5 g5 u5 => ?_
    simp only [splice] at g5
    have x5 : Ext h4 h5 := u5.ext ((Ext.refl h4).push _) (Nat.le_refl _)
    have y5 := y4.trans x5
    have b5 := x5.get b4
    simp only [b5, splice, coreS, Value.cells, Value.oneCell', Nat.reduceAdd, Nat.reduceSub, Nat.reduceMul, Nat.reduceLeDiff, Int.reduceEq, Nat.reduceEqDiff, H39Fs9]
    try rw [hval]
    refine CallsH.mono (fewest24 m i k _ (hm.ext y5)) ?_
    rintro v h6 ⟨rfl, x6⟩
    have y6 := y5.trans x6
    have b6 := x6.get b5
    obtain ⟨x1, hx1⟩ := OV.most_none hok hi2 hmost k
    have cE := (ce_s hc0 hi2 hk2 hx1).1
    have l1 : ¬ 600 < (planS p).size := by rw [planS_size]; omega
    have l2 : ¬ 600 < (planS q2).size := by rw [planS_size]; omega
    simp only [b6, cE, decide_true, decide_false, Bool.not_true, splice, coreS, Value.cells, Value.oneCell', Nat.reduceAdd, Nat.reduceSub, Nat.reduceMul, Nat.reduceLeDiff, Int.reduceEq, Nat.reduceEqDiff, H39Fs9]
    refine CallsH.mono (long18 (planS p) _) ?_
    rintro v hS ⟨rfl, rfl⟩
    simp only [b6, l1, decide_true, decide_false, splice, coreS, Value.cells, Value.oneCell', Nat.reduceAdd, Nat.reduceSub, Nat.reduceMul, Nat.reduceLeDiff, Int.reduceEq, Nat.reduceEqDiff, H39Fs9]
    refine CallsH.mono (long18 (planS q2) _) ?_
    rintro v hS ⟨rfl, rfl⟩
    simp only [b6, l2, decide_true, decide_false, splice, coreS, Value.cells, Value.oneCell', Nat.reduceAdd, Nat.reduceSub, Nat.reduceMul, Nat.reduceLeDiff, Int.reduceEq, Nat.reduceEqDiff, H39Fs9]
    try rw [hval]
    refine CallsH.mono (ckr35 m i (planS p) (planS q2) _ (hm.ext y6) (by rw [planS_size]; omega) (by rw [planS_size]; omega)) ?_
    rintro v h7 ⟨rfl, x7⟩
    have y7 := y6.trans x7
    have b7 := x7.get b6
    simp only [b7, hcr.1, ratV, splice, coreS, Value.cells, Value.oneCell', Nat.reduceAdd, Nat.reduceSub, Nat.reduceMul, Nat.reduceLeDiff, Int.reduceEq, Nat.reduceEqDiff, H39Fs9]
    refine stK_abs push_new (by simp) fun h8 g8 u8 => ?_
    simp only [splice] at g8
    have x8 : Ext h7 h8 := u8.ext ((Ext.refl h7).push _) (Nat.le_refl _)
    have y8 := y7.trans x8
    have b8 := x8.get b7
    simp only [b8, splice, coreS, Value.cells, Value.oneCell', Nat.reduceAdd, Nat.reduceSub, Nat.reduceMul, Nat.reduceLeDiff, Int.reduceEq, Nat.reduceEqDiff, H39Fs9]
    try rw [hval]
    refine CallsH.mono (ckr36 m i (planS p) (planS q2) _ (hm.ext y8) (by rw [planS_size]; omega) (by rw [planS_size]; omega)) ?_
    rintro v h9 ⟨rfl, x9⟩
    have y9 := y8.trans x9
    have b9 := x9.get b8
    simp only [b9, hcr.1, ratV, splice, coreS, Value.cells, Value.oneCell', Nat.reduceAdd, Nat.reduceSub, Nat.reduceMul, Nat.reduceLeDiff, Int.reduceEq, Nat.reduceEqDiff, H39Fs9]
    refine stK_abs push_new (by simp) fun h10 g10 u10 => ?_
    simp only [splice] at g10
    have x10 : Ext h9 h10 := u10.ext ((Ext.refl h9).push _) (Nat.le_refl _)
    have y10 := y9.trans x10
    have b10 := x10.get b9
    simp only [b10, decide_true, splice, coreS, Value.cells, Value.oneCell', Nat.reduceAdd, Nat.reduceSub, Nat.reduceMul, Nat.reduceLeDiff, Int.reduceEq, Nat.reduceEqDiff, H39Fs9]
    refine CallsH.mono (works y10) ?_
    rintro v hW ⟨rfl, xW⟩
    simp only [coreS, Value.cells, Value.oneCell', Nat.reduceAdd, Nat.reduceSub, Nat.reduceMul, Nat.reduceLeDiff, Int.reduceEq, Nat.reduceEqDiff, H39Fs9]
    exact xW
end Go.Proofs.YtafemfjhflfdeaaDoor
