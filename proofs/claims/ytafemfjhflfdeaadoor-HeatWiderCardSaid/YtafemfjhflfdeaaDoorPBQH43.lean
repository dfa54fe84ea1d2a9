/- HeatWider returns true. -/
import Derived.Test.YtafemfjhflfdeaaDoorPB13
import Derived.Test.YtafemfjhflfdeaaDoorPBQH42
namespace Go.Proofs.YtafemfjhflfdeaaDoor
open Go Go.Proofs Go.Eng Go.Run Tab
set_option maxRecDepth 100000
set_option linter.unusedSimpArgs false
set_option linter.unusedVariables false
set_option linter.defProp false
set_option maxHeartbeats 8000000
set_option linter.defProp false
def H43Fs13 := (And.intro (And.intro (And.intro (And.intro @agg2 (And.intro @agg22 @agg24)) (And.intro (And.intro @agg3 @agg45) (And.intro @fo24_0 @fo24_1))) (And.intro (And.intro (And.intro @fo24_2 @fo24_3) (And.intro @fo45_0 @fo45_1)) (And.intro (And.intro @fps24_0 @fps24_1) (And.intro @fps24_2 @fps24_3)))) (And.intro (And.intro (And.intro (And.intro @inf2 @inf22) (And.intro @inf24 @inf3)) (And.intro (And.intro @inf45 @okf24) (And.intro @sz2 @sz22))) (And.intro (And.intro (And.intro @sz24 @sz3) (And.intro @sz45 @zero24)) (And.intro (And.intro @zero45 @Tryd.underlying3) (And.intro @Tryd.underlying5 @Tryd.underlying22)))))
theorem chk_zero {m : MV} (h1 : 1 ≤ m.casts.length ∧ m.casts.length ≤ 16) (h2 : m.waits.length = m.casts.length) (h3 : inMould m = true) (h4 : ¬ m.hi < m.lo) (h5 : sortedTo m.casts 0) (h6 : sortedTo m.waits 0) (h7 : ∀ i < m.casts.length, ¬ badAt m i) : chk m = 0 := by
  unfold chk
  rw [if_neg (by omega), if_neg (by omega), if_neg (by rw [h3]; decide), if_neg]
  rintro (h | h | h | ⟨i, hi, hb⟩)
  · exact h4 h
  · exact h h5
  · exact h h6
  · exact h7 i hi hb
/-- Wider bounds. -/
def MV.wid (m : MV) (r s : Nat) : MV := ⟨m.casts, m.waits, ((m.ov.lo - r : Nat) : Int), ((min (m.ov.n - 1) (m.ov.hi + s) : Nat) : Int), m.a, m.b, m.ca, m.cb⟩
theorem wid_ov (m : MV) (r s : Nat) : (m.wid r s).ov = m.ov.wider r s := by
  show OV.mk _ _ _ _ _ = OV.mk _ _ _ _ _
  congr 1
theorem wid_chk {m : MV} (hc : chk m = 0) (r s : Nat) : chk (m.wid r s) = 0 := by
  obtain ⟨h1, h2, h3, h4, h5, h6, h7⟩ := chk_pos hc
  have gd := good_of hc
  have hok := gd.ok
  have hlh := hok.lh
  have hhl := hok.hl
  have hnn : m.ov.n = m.casts.length := rfl
  have elo : (m.wid r s).lo = ((m.ov.lo - r : Nat) : Int) := rfl
  have ehi : (m.wid r s).hi = ((min (m.ov.n - 1) (m.ov.hi + s) : Nat) : Int) := rfl
  refine chk_zero h1 h2 ?_ (by rw [elo, ehi]; omega) h5 h6 (fun i hi hb => h7 i hi hb)
  simp only [inMould, Bool.and_eq_true] at h3 ⊢
  refine ⟨⟨?_, h3.1.2⟩, h3.2⟩
  rw [inB_two, decide_eq_true_eq, elo, ehi]
  show ((0 : Int) ≤ _ ∧ _ ≤ ((m.casts.length : Int) - 1)) ∧ (0 : Int) ≤ _ ∧ _ ≤ ((m.casts.length : Int) - 1)
  omega
theorem wid_ok {m : MV} {h : Eng.Heap} (hm : m.ok h) (r s : Nat) : (m.wid r s).ok h := ⟨hm.c, hm.w, hm.cl, hm.wl⟩
theorem wider13 (m : MV) (w q r0 s0 : Int) (h : Eng.Heap) (hc : IntsV h m.a m.casts.length m.casts) (hw : IntsV h m.b m.waits.length m.waits) (hwb : 0 ≤ w ∧ w ≤ 255) (hqb : 0 ≤ q ∧ q ≤ 255) (hrb : 0 ≤ r0 ∧ r0 ≤ 255) (hsb : 0 ≤ s0 ∧ s0 ≤ 255) :
    CallsH Tryd.prog 13 #[m.val, .int .u8 w, .int .u8 q, .int .u8 r0, .int .u8 s0] h (fun v h' => v = .bool true ∧ Ext h h') := by
  (refine CallsH_of_exec Tryd.func13 rfl bod13 ?_; simp only [Tryd.ntmps13, Tryd.results13, coreS, stK_some, splice, Value.cells, Value.oneCell', Nat.reduceAdd, Nat.reduceSub, Nat.reduceMul, Nat.reduceLeDiff, Int.reduceEq, Nat.reduceEqDiff, H43Fs13])
  have hb := push_new (h := h) (o := .cells #[.slice m.a m.casts.length m.ca, .slice m.b m.waits.length m.cb, .int .i64 m.lo, .int .i64 m.hi] 24)
  have y0 : Ext h (h.push (.cells #[.slice m.a m.casts.length m.ca, .slice m.b m.waits.length m.cb, .int .i64 m.lo, .int .i64 m.hi] 24)) := (Ext.refl h).push _
  have hval : Value.agg #[.slice m.a m.casts.length m.ca, .slice m.b m.waits.length m.cb, .int .i64 m.lo, .int .i64 m.hi] = m.val := rfl
  have works : ∀ {h2 : Eng.Heap}, Ext h h2 → CallsH Tryd.prog 19 #[] h2 (fun v h' => v = .bool true ∧ Ext h h') := fun x => CallsH.mono (works19 _) fun v h' q => ⟨q.1, x.trans q.2⟩
  have b0 := hb
  refine CallsH.mono (fine47 m _ (hc.ext y0) (hw.ext y0)) ?_
  rintro v h1 ⟨rfl, x1⟩
  have y1 := y0.trans x1
  have b1 := x1.get b0
  by_cases hf : okM m = true
  case neg =>
    have hf2 : okM m = false := by simpa using hf
    simp only [hf2, Bool.not_false, gd_none, coreS, Value.cells, Value.oneCell', Nat.reduceAdd, Nat.reduceSub, Nat.reduceMul, Nat.reduceLeDiff, Int.reduceEq, Nat.reduceEqDiff, H43Fs13]
    refine CallsH.mono (works y1) ?_
    rintro v hW ⟨rfl, xW⟩
    simp only [coreS, Value.cells, Value.oneCell', Nat.reduceAdd, Nat.reduceSub, Nat.reduceMul, Nat.reduceLeDiff, Int.reduceEq, Nat.reduceEqDiff, H43Fs13]
    exact xW
  obtain ⟨hg, hc0⟩ := okM_iff.1 hf
  have hm : m.ok h := ⟨hc, hw, by omega, by omega⟩
  have gd := good_of hc0
  have h16 := (chk_pos hc0).1
  have hok := gd.ok
  have hnn : m.ov.n = m.casts.length := rfl
  obtain ⟨i, hi, ei⟩ := tmod_idx (w := w) (c := (m.casts.length : Int)) hwb.1 (by omega)
  obtain ⟨k, hk, ek⟩ := tmod_idx (w := q) (c := 31) hqb.1 (by omega)
  obtain ⟨r, hr, er⟩ := tmod_idx (w := r0) (c := 4) hrb.1 (by omega)
  obtain ⟨s, hs, es⟩ := tmod_idx (w := s0) (c := 4) hsb.1 (by omega)
  have hi2 : i < m.casts.length := by omega
  have hk2 : k ≤ 30 := by omega
  have hlh := hok.lh
  have hhl := hok.hl
  have e1 : (if (0 : Int) < m.lo - r then m.lo - r else 0) = ((m.ov.lo - r : Nat) : Int) := by rw [gd.lo]; split <;> omega
  have e2 : (if m.hi + s < (m.casts.length : Int) - 1 then m.hi + s else (m.casts.length : Int) - 1) = ((min (m.ov.n - 1) (m.ov.hi + s) : Nat) : Int) := by rw [gd.hi, hnn]; split <;> omega
  have el := gd.lo
  have eh := gd.hi
  simp only [b1, hf, ei, ek, er, es, decide_false, Bool.not_true, gd_none, splice, coreS, Value.cells, Value.oneCell', Nat.reduceAdd, Nat.reduceSub, Nat.reduceMul, Nat.reduceLeDiff, Int.reduceEq, Nat.reduceEqDiff, H43Fs13]
  repeat (refine And.intro (by first | omega | (rw [inK_i64]; omega) | (rw [inK_u8]; omega) | rfl | assumption | decide) ?_)
  try simp only [b1, ei, ek, er, es, splice, coreS, Value.cells, Value.oneCell', Nat.reduceAdd, Nat.reduceSub, Nat.reduceMul, Nat.reduceLeDiff, Int.reduceEq, Nat.reduceEqDiff, H43Fs13]
  simp only [e1, e2]
  refine stK_abs push_new (by simp) fun h2 g2 u2 => ?_
  simp only [splice] at g2
  have x2 : Ext h1 h2 := u2.ext ((Ext.refl h1).push _) (Nat.le_refl _)
  have y2 := y1.trans x2
  have b2 := x2.get b1
  have bw2 := g2
  have hvalw : Value.agg #[.slice m.a m.casts.length m.ca, .slice m.b m.waits.length m.cb, .int .i64 ((m.ov.lo - r : Nat) : Int), .int .i64 ((min (m.ov.n - 1) (m.ov.hi + s) : Nat) : Int)] = (m.wid r s).val := rfl
  have hcw := wid_chk hc0 r s
  have hmw := wid_ok hm r s
  have how := wid_ov m r s
  have hokw := OV.wider_ok hok r s
  have hlwm : ∀ {k x : Nat}, m.ov.lw k (i, i) = some x → ∃ y, (m.wid r s).ov.lw k (i, i) = some y ∧ y ≤ x := fun hx => by
    rw [how]; exact OV.wider_lw hok (s := (i, i)) ⟨hi2, hi2⟩ hx
  simp only [b2, bw2, splice, coreS, Value.cells, Value.oneCell', Nat.reduceAdd, Nat.reduceSub, Nat.reduceMul, Nat.reduceLeDiff, Int.reduceEq, Nat.reduceEqDiff, H43Fs13]
  try rw [hval]
  refine CallsH.mono (fewest24 m i k _ (hm.ext y2)) ?_
  rintro v h3 ⟨rfl, x3⟩
  have y3 := y2.trans x3
  have b3 := x3.get b2
  have bw3 := x3.get bw2
  simp only [b3, bw3, splice, coreS, Value.cells, Value.oneCell', Nat.reduceAdd, Nat.reduceSub, Nat.reduceMul, Nat.reduceLeDiff, Int.reduceEq, Nat.reduceEqDiff, H43Fs13]
  try rw [hvalw]
  refine CallsH.mono (fewest24 (m.wid r s) i k _ (hmw.ext y3)) ?_
  rintro v h4 ⟨rfl, x4⟩
  have y4 := y3.trans x4
  have b4 := x4.get b3
  have bw4 := x4.get bw3
  simp only [b4, bw4, splice, coreS, Value.cells, Value.oneCell', Nat.reduceAdd, Nat.reduceSub, Nat.reduceMul, Nat.reduceLeDiff, Int.reduceEq, Nat.reduceEqDiff, H43Fs13]
  try rw [hval]
  refine CallsH.mono (most28 m i _ (hm.ext y4)) ?_
  rintro v h5 ⟨rfl, x5⟩
  have y5 := y4.trans x5
  have b5 := x5.get b4
  have bw5 := x5.get bw4
  simp only [b5, bw5, splice, coreS, Value.cells, Value.oneCell', Nat.reduceAdd, Nat.reduceSub, Nat.reduceMul, Nat.reduceLeDiff, Int.reduceEq, Nat.reduceEqDiff, H43Fs13]
  try rw [hvalw]
  refine CallsH.mono (most28 (m.wid r s) i _ (hmw.ext y5)) ?_
  rintro v h6 ⟨rfl, x6⟩
  have y6 := y5.trans x6
  have b6 := x6.get b5
  have bw6 := x6.get bw5
  simp only [b6, bw6, splice, coreS, Value.cells, Value.oneCell', Nat.reduceAdd, Nat.reduceSub, Nat.reduceMul, Nat.reduceLeDiff, Int.reduceEq, Nat.reduceEqDiff, H43Fs13]
  try rw [hval]
  obtain ⟨X, hX⟩ : ∃ X, rtV m i = X := ⟨_, rfl⟩
  obtain ⟨Y, hY⟩ : ∃ Y, rtV (m.wid r s) i = Y := ⟨_, rfl⟩
  refine CallsH.mono (rate37 m i _ (hm.ext y6)) ?_
  rintro v h7 ⟨rfl, x7⟩
  have y7 := y6.trans x7
  have b7 := x7.get b6
  have bw7 := x7.get bw6
  simp only [b7, bw7, hX, ratV, splice, coreS, Value.cells, Value.oneCell', Nat.reduceAdd, Nat.reduceSub, Nat.reduceMul, Nat.reduceLeDiff, Int.reduceEq, Nat.reduceEqDiff, H43Fs13]
  refine stK_abs push_new (by simp) fun h8 g8 u8 => ?_
  simp only [splice] at g8
  have x8 : Ext h7 h8 := u8.ext ((Ext.refl h7).push _) (Nat.le_refl _)
  have y8 := y7.trans x8
  have b8 := x8.get b7
  have bw8 := x8.get bw7
  have bx8 := g8
  simp only [b8, bw8, bx8, splice, coreS, Value.cells, Value.oneCell', Nat.reduceAdd, Nat.reduceSub, Nat.reduceMul, Nat.reduceLeDiff, Int.reduceEq, Nat.reduceEqDiff, H43Fs13]
  try rw [hvalw]
  refine CallsH.mono (rate37 (m.wid r s) i _ (hmw.ext y8)) ?_
  rintro v h9 ⟨rfl, x9⟩
  have y9 := y8.trans x9
  have b9 := x9.get b8
  have bw9 := x9.get bw8
  have bx9 := x9.get bx8
  simp only [b9, bw9, bx9, hY, ratV, splice, coreS, Value.cells, Value.oneCell', Nat.reduceAdd, Nat.reduceSub, Nat.reduceMul, Nat.reduceLeDiff, Int.reduceEq, Nat.reduceEqDiff, H43Fs13]
  refine stK_abs push_new (by simp) fun h10 g10 u10 => ?_
  simp only [splice] at g10
  have x10 : Ext h9 h10 := u10.ext ((Ext.refl h9).push _) (Nat.le_refl _)
  have y10 := y9.trans x10
  have b10 := x10.get b9
  have bw10 := x10.get bw9
  have bx10 := x10.get bx9
  have by10 := g10
  have hiw : i < (m.wid r s).casts.length := hi2
  have few : (∃ E : Int, ceE m i k = 22 ∧ ceE (m.wid r s) i k = E) ∨ (∃ a b : Nat, ceE m i k = 0 ∧ ceE (m.wid r s) i k = 0 ∧ ceW m i k = a ∧ ceW (m.wid r s) i k = b ∧ b ≤ a) := by
    cases hlw : m.ov.lw k (i, i) with
    | none => exact .inl ⟨_, (ce_n hc0 hi2 hk2 hlw).1, rfl⟩
    | some a =>
      obtain ⟨b, hb, hba⟩ := hlwm hlw
      obtain ⟨e1, e2, _⟩ := ce_s hc0 hi2 hk2 hlw
      obtain ⟨f1, f2, _⟩ := ce_s hcw hiw hk2 hb
      exact .inr ⟨a, b, e1, f1, e2, f2, hba⟩
  have mos : (moE m i = 4 ∧ moE (m.wid r s) i = 4 ∧ roE m i = 0 ∧ roE (m.wid r s) i = 0 ∧ X = m.ov.rate i ∧ Y = (m.ov.wider r s).rate i ∧ m.ov.most i = none ∧ (m.wid r s).ov.most i = none) ∨ (∃ c : Nat, moE m i = 0 ∧ moE (m.wid r s) i = 4 ∧ roE m i = 22) ∨ (∃ c d : Nat, moE m i = 0 ∧ moE (m.wid r s) i = 0 ∧ moW m i = c ∧ moW (m.wid r s) i = d ∧ c ≤ d ∧ roE m i = 22) := by
    cases h1 : m.ov.most i with
    | none =>
      obtain ⟨v1, v2, v3, v4⟩ := mo_n hc0 hi2 h1
      cases h2 : (m.wid r s).ov.most i with
      | none =>
        obtain ⟨w1, w2, w3, w4⟩ := mo_n hcw hiw h2
        exact .inl ⟨v1, w1, v3, w3, by rw [← hX, v4], by rw [← hY, w4, how], rfl, rfl⟩
      | some d =>
        obtain ⟨x9, hx9⟩ := OV.most_none hok hi2 h1 (d + 1)
        obtain ⟨y9, hy9, _⟩ := hlwm hx9
        rw [(OV.most_some h2).2.1] at hy9
        cases hy9
    | some c =>
      obtain ⟨v1, v2, v3, v4⟩ := mo_s hc0 hi2 h1
      cases h2 : (m.wid r s).ov.most i with
      | none => exact .inr (.inl ⟨c, v1, (mo_n hcw hiw h2).1, v3⟩)
      | some d =>
        obtain ⟨w1, w2, _, _⟩ := mo_s hcw hiw h2
        refine .inr (.inr ⟨c, d, v1, w1, v2, w2, ?_, v3⟩)
        obtain ⟨x9, hx9⟩ := Option.isSome_iff_exists.1 ((OV.most_some h1).2.2 c (Nat.le_refl _))
        obtain ⟨y9, hy9, _⟩ := hlwm hx9
        exact (OV.most_iff (good_of hcw).ok hiw h2 c).1 (by rw [hy9]; rfl)
  rcases few with ⟨E, f1, f2⟩ | ⟨fa, fb, f1, f2, f3, f4, f5⟩
  ·
    rcases mos with ⟨v1, v2, v3, v4, v5, v6, v7, v8⟩ | ⟨c, v1, v2, v3⟩ | ⟨c, d, v1, v2, v3, v4, v5, v6⟩
    ·
      have hlw : (m.ov.lw m.ov.n (i, i)).isSome := by
        obtain ⟨x9, hx9⟩ := OV.most_none hok hi2 v7 m.ov.n
        rw [hx9]; rfl
      have hlw2 : ((m.ov.wider r s).lw (m.ov.wider r s).n (i, i)).isSome := by
        obtain ⟨x9, hx9⟩ := OV.most_none (good_of hcw).ok hiw v8 m.ov.n
        rw [how] at hx9
        rw [show (m.ov.wider r s).n = m.ov.n from rfl, hx9]; rfl
      obtain ⟨s2, s3, s1, s4⟩ := OV.rate_small hok hi2 hlw
      obtain ⟨z2, z3, z1, z4⟩ := OV.rate_small hokw hi2 hlw2
      have hle : OV.leQ ((m.ov.wider r s).rate i) (m.ov.rate i) := OV.wider_rate hok hi2 hlw
      unfold OV.leQ at hle
      rw [← v5] at s1 s2 s3 s4 hle
      rw [← v6] at z1 z2 z3 z4 hle
      simp only [b10, bw10, bx10, by10, f1, f2, decide_true, decide_false, Bool.not_true, Bool.not_false, gd_none, v1, v2, v3, v4, splice, coreS, Value.cells, Value.oneCell', Nat.reduceAdd, Nat.reduceSub, Nat.reduceMul, Nat.reduceLeDiff, Int.reduceEq, Nat.reduceEqDiff, H43Fs13]
      try rw [show Value.agg #[.int .i64 (X.1 : Int), .int .i64 (X.2 : Int)] = ratV X from rfl]
      refine CallsH.mono (small51 X _ s2 s3 s1 s4) ?_
      rintro v h11 ⟨rfl, x11⟩
      have y11 := y10.trans x11
      have b11 := x11.get b10
      have bw11 := x11.get bw10
      have bx11 := x11.get bx10
      have by11 := x11.get by10
      simp only [b11, bw11, bx11, by11, decide_true, decide_false, splice, coreS, Value.cells, Value.oneCell', Nat.reduceAdd, Nat.reduceSub, Nat.reduceMul, Nat.reduceLeDiff, Int.reduceEq, Nat.reduceEqDiff, H43Fs13]
      try rw [show Value.agg #[.int .i64 (Y.1 : Int), .int .i64 (Y.2 : Int)] = ratV Y from rfl]
      refine CallsH.mono (small51 Y _ z2 z3 z1 z4) ?_
      rintro v h12 ⟨rfl, x12⟩
      have y12 := y11.trans x12
      have b12 := x12.get b11
      have bw12 := x12.get bw11
      have bx12 := x12.get bx11
      have by12 := x12.get by11
      obtain ⟨A, hA, eA, lA⟩ := prod_atom Y.1 X.2 500 500 z1 s3
      obtain ⟨B, hB, eB, lB⟩ := prod_atom X.1 Y.2 500 500 s1 z3
      have q1 : (A : Int) ≤ B := by rw [hA, hB] at hle; omega
      simp only [b12, bw12, bx12, by12, eA, eB, q1, decide_true, decide_false, splice, coreS, Value.cells, Value.oneCell', Nat.reduceAdd, Nat.reduceSub, Nat.reduceMul, Nat.reduceLeDiff, Int.reduceEq, Nat.reduceEqDiff, H43Fs13]
      repeat (refine And.intro (by first | omega | (rw [inK_i64]; omega) | rfl | assumption | (decide)) ?_)
      try simp only [b12, bw12, bx12, by12, eA, eB, q1, decide_true, decide_false, splice, coreS, Value.cells, Value.oneCell', Nat.reduceAdd, Nat.reduceSub, Nat.reduceMul, Nat.reduceLeDiff, Int.reduceEq, Nat.reduceEqDiff, H43Fs13]
      refine CallsH.mono (works y12) ?_
      rintro v hW ⟨rfl, xW⟩
      simp only [coreS, Value.cells, Value.oneCell', Nat.reduceAdd, Nat.reduceSub, Nat.reduceMul, Nat.reduceLeDiff, Int.reduceEq, Nat.reduceEqDiff, H43Fs13]
      exact xW
    ·
      simp only [b10, bw10, bx10, by10, f1, f2, decide_true, decide_false, Bool.not_true, Bool.not_false, gd_none, v1, v2, v3, splice, coreS, Value.cells, Value.oneCell', Nat.reduceAdd, Nat.reduceSub, Nat.reduceMul, Nat.reduceLeDiff, Int.reduceEq, Nat.reduceEqDiff, H43Fs13]
      refine CallsH.mono (works y10) ?_
      rintro v hW ⟨rfl, xW⟩
      simp only [coreS, Value.cells, Value.oneCell', Nat.reduceAdd, Nat.reduceSub, Nat.reduceMul, Nat.reduceLeDiff, Int.reduceEq, Nat.reduceEqDiff, H43Fs13]
      exact xW
    ·
      have qm : ¬ ((d : Int) < c) := by omega
      simp only [b10, bw10, bx10, by10, f1, f2, decide_true, decide_false, Bool.not_true, Bool.not_false, gd_none, v1, v2, v3, v4, v6, qm, splice, coreS, Value.cells, Value.oneCell', Nat.reduceAdd, Nat.reduceSub, Nat.reduceMul, Nat.reduceLeDiff, Int.reduceEq, Nat.reduceEqDiff, H43Fs13]
      refine CallsH.mono (works y10) ?_
      rintro v hW ⟨rfl, xW⟩
      simp only [coreS, Value.cells, Value.oneCell', Nat.reduceAdd, Nat.reduceSub, Nat.reduceMul, Nat.reduceLeDiff, Int.reduceEq, Nat.reduceEqDiff, H43Fs13]
      exact xW
  ·
    have qf : ¬ ((fa : Int) < fb) := by omega
    rcases mos with ⟨v1, v2, v3, v4, v5, v6, v7, v8⟩ | ⟨c, v1, v2, v3⟩ | ⟨c, d, v1, v2, v3, v4, v5, v6⟩
    ·
      have hlw : (m.ov.lw m.ov.n (i, i)).isSome := by
        obtain ⟨x9, hx9⟩ := OV.most_none hok hi2 v7 m.ov.n
        rw [hx9]; rfl
      have hlw2 : ((m.ov.wider r s).lw (m.ov.wider r s).n (i, i)).isSome := by
        obtain ⟨x9, hx9⟩ := OV.most_none (good_of hcw).ok hiw v8 m.ov.n
        rw [how] at hx9
        rw [show (m.ov.wider r s).n = m.ov.n from rfl, hx9]; rfl
      obtain ⟨s2, s3, s1, s4⟩ := OV.rate_small hok hi2 hlw
      obtain ⟨z2, z3, z1, z4⟩ := OV.rate_small hokw hi2 hlw2
      have hle : OV.leQ ((m.ov.wider r s).rate i) (m.ov.rate i) := OV.wider_rate hok hi2 hlw
      unfold OV.leQ at hle
      rw [← v5] at s1 s2 s3 s4 hle
      rw [← v6] at z1 z2 z3 z4 hle
      simp only [b10, bw10, bx10, by10, f1, f2, f3, f4, qf, decide_true, decide_false, Bool.not_true, Bool.not_false, gd_none, v1, v2, v3, v4, splice, coreS, Value.cells, Value.oneCell', Nat.reduceAdd, Nat.reduceSub, Nat.reduceMul, Nat.reduceLeDiff, Int.reduceEq, Nat.reduceEqDiff, H43Fs13]
      try rw [show Value.agg #[.int .i64 (X.1 : Int), .int .i64 (X.2 : Int)] = ratV X from rfl]
      refine CallsH.mono (small51 X _ s2 s3 s1 s4) ?_
      rintro v h11 ⟨rfl, x11⟩
      have y11 := y10.trans x11
      have b11 := x11.get b10
      have bw11 := x11.get bw10
      have bx11 := x11.get bx10
      have by11 := x11.get by10
      simp only [b11, bw11, bx11, by11, decide_true, decide_false, splice, coreS, Value.cells, Value.oneCell', Nat.reduceAdd, Nat.reduceSub, Nat.reduceMul, Nat.reduceLeDiff, Int.reduceEq, Nat.reduceEqDiff, H43Fs13]
      try rw [show Value.agg #[.int .i64 (Y.1 : Int), .int .i64 (Y.2 : Int)] = ratV Y from rfl]
      refine CallsH.mono (small51 Y _ z2 z3 z1 z4) ?_
      rintro v h12 ⟨rfl, x12⟩
      have y12 := y11.trans x12
      have b12 := x12.get b11
      have bw12 := x12.get bw11
      have bx12 := x12.get bx11
      have by12 := x12.get by11
      obtain ⟨A, hA, eA, lA⟩ := prod_atom Y.1 X.2 500 500 z1 s3
      obtain ⟨B, hB, eB, lB⟩ := prod_atom X.1 Y.2 500 500 s1 z3
      have q1 : (A : Int) ≤ B := by rw [hA, hB] at hle; omega
      simp only [b12, bw12, bx12, by12, eA, eB, q1, decide_true, decide_false, splice, coreS, Value.cells, Value.oneCell', Nat.reduceAdd, Nat.reduceSub, Nat.reduceMul, Nat.reduceLeDiff, Int.reduceEq, Nat.reduceEqDiff, H43Fs13]
      repeat (refine And.intro (by first | omega | (rw [inK_i64]; omega) | rfl | assumption | (decide)) ?_)
      try simp only [b12, bw12, bx12, by12, eA, eB, q1, decide_true, decide_false, splice, coreS, Value.cells, Value.oneCell', Nat.reduceAdd, Nat.reduceSub, Nat.reduceMul, Nat.reduceLeDiff, Int.reduceEq, Nat.reduceEqDiff, H43Fs13]
      refine CallsH.mono (works y12) ?_
      rintro v hW ⟨rfl, xW⟩
      simp only [coreS, Value.cells, Value.oneCell', Nat.reduceAdd, Nat.reduceSub, Nat.reduceMul, Nat.reduceLeDiff, Int.reduceEq, Nat.reduceEqDiff, H43Fs13]
      exact xW
    ·
      simp only [b10, bw10, bx10, by10, f1, f2, f3, f4, qf, decide_true, decide_false, Bool.not_true, Bool.not_false, gd_none, v1, v2, v3, splice, coreS, Value.cells, Value.oneCell', Nat.reduceAdd, Nat.reduceSub, Nat.reduceMul, Nat.reduceLeDiff, Int.reduceEq, Nat.reduceEqDiff, H43Fs13]
      refine CallsH.mono (works y10) ?_
      rintro v hW ⟨rfl, xW⟩
      simp only [coreS, Value.cells, Value.oneCell', Nat.reduceAdd, Nat.reduceSub, Nat.reduceMul, Nat.reduceLeDiff, Int.reduceEq, Nat.reduceEqDiff, H43Fs13]
      exact xW
    ·
      have qm : ¬ ((d : Int) < c) := by omega
      simp only [b10, bw10, bx10, by10, f1, f2, f3, f4, qf, decide_true, decide_false, Bool.not_true, Bool.not_false, gd_none, v1, v2, v3, v4, v6, qm, splice, coreS, Value.cells, Value.oneCell', Nat.reduceAdd, Nat.reduceSub, Nat.reduceMul, Nat.reduceLeDiff, Int.reduceEq, Nat.reduceEqDiff, H43Fs13]
      refine CallsH.mono (works y10) ?_
      rintro v hW ⟨rfl, xW⟩
      simp only [coreS, Value.cells, Value.oneCell', Nat.reduceAdd, Nat.reduceSub, Nat.reduceMul, Nat.reduceLeDiff, Int.reduceEq, Nat.reduceEqDiff, H43Fs13]
      exact xW
end Go.Proofs.YtafemfjhflfdeaaDoor
