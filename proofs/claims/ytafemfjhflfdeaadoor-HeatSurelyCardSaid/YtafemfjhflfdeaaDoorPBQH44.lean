/- HeatSurely returns true. -/
import Derived.Test.YtafemfjhflfdeaaDoorPB13
namespace Go.Proofs.YtafemfjhflfdeaaDoor
open Go Go.Proofs Go.Eng Go.Run Tab
set_option maxRecDepth 100000
set_option linter.unusedSimpArgs false
set_option linter.unusedVariables false
set_option linter.defProp false
set_option maxHeartbeats 8000000
set_option linter.defProp false
def H44Fs14 := (And.intro (And.intro (And.intro (And.intro @agg2 @agg22) (And.intro @agg24 (And.intro @agg54 @fo24_0))) (And.intro (And.intro @fo54_0 @fo54_1) (And.intro @inf2 (And.intro @inf22 @inf24)))) (And.intro (And.intro (And.intro @inf54 @sz2) (And.intro @sz22 (And.intro @sz24 @sz54))) (And.intro (And.intro @zero54 (And.intro @Tryd.underlying3 @Tryd.underlying5)) (And.intro @Tryd.underlying9 (And.intro @Tryd.underlying22 @Tryd.underlying63)))))
theorem surely14 (m : MV) (w q r0 s0 : Int) (a : Option Addr) (n c : Nat) (xs : List Int) (h : Eng.Heap) (hc : IntsV h m.a m.casts.length m.casts) (hw : IntsV h m.b m.waits.length m.waits) (hwb : 0 ≤ w ∧ w ≤ 255) (hqb : 0 ≤ q ∧ q ≤ 255) (hrb0 : 0 ≤ r0 ∧ r0 ≤ 255) (hsb : 0 ≤ s0 ∧ s0 ≤ 255) (hnb : n = xs.length ∧ n ≤ c) (hrb : Row h a (bytesV xs)) (hmb : n ≤ 9223372036854775807) (hxb : ∀ x ∈ xs, 0 ≤ x ∧ x ≤ 255) :
    CallsH Tryd.prog 14 #[m.val, .int .u8 w, .int .u8 q, .int .u8 r0, .int .u8 s0, .slice a n c] h (fun v h' => v = .bool true ∧ Ext h h') := by
  (refine CallsH_of_exec Tryd.func14 rfl bod14 ?_; simp only [Tryd.ntmps14, Tryd.results14, coreS, stK_some, splice, Value.cells, Value.oneCell', Nat.reduceAdd, Nat.reduceSub, Nat.reduceMul, Nat.reduceLeDiff, Int.reduceEq, Nat.reduceEqDiff, H44Fs14])
  have hb := push_new (h := h) (o := .cells #[.slice m.a m.casts.length m.ca, .slice m.b m.waits.length m.cb, .int .i64 m.lo, .int .i64 m.hi] 24)
  have y0 : Ext h (h.push (.cells #[.slice m.a m.casts.length m.ca, .slice m.b m.waits.length m.cb, .int .i64 m.lo, .int .i64 m.hi] 24)) := (Ext.refl h).push _
  have hval : Value.agg #[.slice m.a m.casts.length m.ca, .slice m.b m.waits.length m.cb, .int .i64 m.lo, .int .i64 m.hi] = m.val := rfl
  have works : ∀ {h2 : Eng.Heap}, Ext h h2 → CallsH Tryd.prog 19 #[] h2 (fun v h' => v = .bool true ∧ Ext h h') := fun x => CallsH.mono (works19 _) fun v h' q => ⟨q.1, x.trans q.2⟩
  have b0 := hb
  refine CallsH.mono (fine47 m _ (hc.ext y0) (hw.ext y0)) ?_
  rintro v h1 ⟨rfl, x1⟩
  have y1 := y0.trans x1
  have b1 := x1.get b0
  by_cases hf : okM m = true
  case neg =>
    have hf2 : okM m = false := by simpa using hf
    simp only [hf2, Bool.not_false, gd_none, coreS, Value.cells, Value.oneCell', Nat.reduceAdd, Nat.reduceSub, Nat.reduceMul, Nat.reduceLeDiff, Int.reduceEq, Nat.reduceEqDiff, H44Fs14]
    refine CallsH.mono (works y1) ?_
    rintro v hW ⟨rfl, xW⟩
    simp only [coreS, Value.cells, Value.oneCell', Nat.reduceAdd, Nat.reduceSub, Nat.reduceMul, Nat.reduceLeDiff, Int.reduceEq, Nat.reduceEqDiff, H44Fs14]
    exact xW
  obtain ⟨hg, hc0⟩ := okM_iff.1 hf
  have hm : m.ok h := ⟨hc, hw, by omega, by omega⟩
  have gd := good_of hc0
  have h16 := (chk_pos hc0).1
  have hok := gd.ok
  have hnn : m.ov.n = m.casts.length := rfl
  by_cases hl : 100 < n
  case pos =>
    have hl2 : (100 : Int) < n := by omega
    simp only [hf, hl2, decide_true, Bool.not_true, gd_none, coreS, Value.cells, Value.oneCell', Nat.reduceAdd, Nat.reduceSub, Nat.reduceMul, Nat.reduceLeDiff, Int.reduceEq, Nat.reduceEqDiff, H44Fs14]
    refine CallsH.mono (works y1) ?_
    rintro v hW ⟨rfl, xW⟩
    simp only [coreS, Value.cells, Value.oneCell', Nat.reduceAdd, Nat.reduceSub, Nat.reduceMul, Nat.reduceLeDiff, Int.reduceEq, Nat.reduceEqDiff, H44Fs14]
    exact xW
  have hl2 : ¬ (100 : Int) < n := by omega
  have hnb1 := hnb.1
  obtain ⟨i0, hi0, ei⟩ := tmod_idx (w := w) (c := (m.casts.length : Int)) hwb.1 (by omega)
  obtain ⟨j0, hj0, ej⟩ := tmod_idx (w := q) (c := (m.casts.length : Int)) hqb.1 (by omega)
  simp only [b1, hf, hl2, decide_false, Bool.not_true, gd_none, splice, coreS, Value.cells, Value.oneCell', Nat.reduceAdd, Nat.reduceSub, Nat.reduceMul, Nat.reduceLeDiff, Int.reduceEq, Nat.reduceEqDiff, H44Fs14]
  refine WP_tree (by kernel_rfl) sta_ext (.quiet 0 (.quiet 1 (.quiet 2 (.quiet 3 (.quiet 4 (.quiet 5 (.quiet 6 (.quiet 7 (.quiet 8 (.quiet 9 (.quiet 10 (.quiet 11 (.quiet 12 (.quiet 13 (.quiet 14 (.quiet 15 (.quiet 16 (.quiet 17 (.quiet 18 (.quiet 19 (.fin))))))))))))))))))))) (by kernel_rfl) rfl (by kernel_rfl) ?_
  simp only [b1, ei, ej, splice, coreS, Value.cells, Value.oneCell', Nat.reduceAdd, Nat.reduceSub, Nat.reduceMul, Nat.reduceLeDiff, Int.reduceEq, Nat.reduceEqDiff, drawS, treeS, H44Fs14]
  repeat (refine And.intro (by first | omega | (rw [inK_i64]; omega) | rfl | assumption | (decide)) ?_)
  try simp only [ei, ej, coreS, Value.cells, Value.oneCell', Nat.reduceAdd, Nat.reduceSub, Nat.reduceMul, Nat.reduceLeDiff, Int.reduceEq, Nat.reduceEqDiff, drawS, treeS, H44Fs14]
  refine execT_fin fun h2 x2 => ?_
  have y2 := y1.trans x2
  have b2 := x2.get b1
  obtain ⟨lo, hlo⟩ : ∃ lo, min i0 j0 = lo := ⟨_, rfl⟩
  obtain ⟨hi', hhi⟩ : ∃ hi', max i0 j0 = hi' := ⟨_, rfl⟩
  have e1 : (if (j0 : Int) < (i0 : Int) then (j0 : Int) else (i0 : Int)) = (lo : Int) := by split <;> omega
  have e2 : (if (i0 : Int) < (j0 : Int) then (j0 : Int) else (i0 : Int)) = (hi' : Int) := by split <;> omega
  have l1 : lo ≤ hi' := by omega
  have l2 : hi' < m.casts.length := by omega
  have l3 : lo < m.casts.length := by omega
  have hol : (oddL xs).length ≤ 100 := by rw [oddL_length]; omega
  obtain ⟨d, hd, ed⟩ := tmod_idx (w := r0) (c := (hi' : Int) - lo + 1) hrb0.1 (by omega)
  obtain ⟨k, hk, ek⟩ := tmod_idx (w := s0) (c := 31) hsb.1 (by omega)
  have hk2 : k ≤ 30 := by omega
  obtain ⟨i, hid⟩ : ∃ i, lo + d = i := ⟨_, rfl⟩
  have eid : (lo : Int) + d = (i : Int) := by omega
  have hi2 : i < m.casts.length := by omega
  have hi3 : lo ≤ i := by omega
  have hi4 : i ≤ hi' := by omega
  simp only [b2, e1, e2, ed, ek, eid, splice, coreS, Value.cells, Value.oneCell', Nat.reduceAdd, Nat.reduceSub, Nat.reduceMul, Nat.reduceLeDiff, Int.reduceEq, Nat.reduceEqDiff, H44Fs14]
  repeat (refine And.intro (by first | omega | (rw [inK_i64]; omega) | rfl | assumption | (decide)) ?_)
  try simp only [b2, e1, e2, ed, ek, eid, splice, coreS, Value.cells, Value.oneCell', Nat.reduceAdd, Nat.reduceSub, Nat.reduceMul, Nat.reduceLeDiff, Int.reduceEq, Nat.reduceEqDiff, H44Fs14]
  refine CallsH.mono (to49 lo hi' _) ?_
  rintro v h3 ⟨rfl, x3⟩
  have y3 := y2.trans x3
  have b3 := x3.get b2
  simp only [b3, rgV, ratV, splice, coreS, Value.cells, Value.oneCell', Nat.reduceAdd, Nat.reduceSub, Nat.reduceMul, Nat.reduceLeDiff, Int.reduceEq, Nat.reduceEqDiff, H44Fs14]
  refine stK_abs push_new (by simp) fun h4 g4 u4 => ?_
  simp only [splice] at g4
  have x4 : Ext h3 h4 := u4.ext ((Ext.refl h3).push _) (Nat.le_refl _)
  have y4 := y3.trans x4
  have b4 := x4.get b3
  have br4 := g4
  simp only [b4, br4, splice, coreS, Value.cells, Value.oneCell', Nat.reduceAdd, Nat.reduceSub, Nat.reduceMul, Nat.reduceLeDiff, Int.reduceEq, Nat.reduceEqDiff, H44Fs14]
  try rw [hval]
  refine CallsH.mono (surely43 m lo hi' k _ (hm.ext y4)) ?_
  rintro v h5 ⟨rfl, x5⟩
  have y5 := y4.trans x5
  have b5 := x5.get b4
  have br5 := x5.get br4
  simp only [b5, br5, splice, coreS, Value.cells, Value.oneCell', Nat.reduceAdd, Nat.reduceSub, Nat.reduceMul, Nat.reduceLeDiff, Int.reduceEq, Nat.reduceEqDiff, H44Fs14]
  try rw [hval]
  refine CallsH.mono (working48 m gd hi' a n c xs _ (hm.ext y5) l2 hnb1 (hrb.ext y5) hxb (by omega)) ?_
  rintro v h6 ⟨rfl, x6⟩
  have y6 := y5.trans x6
  have b6 := x6.get b5
  have br6 := x6.get br5
  obtain ⟨u, hu, hrun, hlen, rE, rA, rK, rS⟩ := wk_vals hc0 l2 hol
  generalize m.ov.wk hi' (oddL xs) = P at hrun hlen rE rA rK rS ⊢
  have hP5 : P.length ≤ 500 := by omega
  simp only [b6, br6, splice, coreS, Value.cells, Value.oneCell', Nat.reduceAdd, Nat.reduceSub, Nat.reduceMul, Nat.reduceLeDiff, Int.reduceEq, Nat.reduceEqDiff, H44Fs14]
  try rw [hval]
  refine CallsH.mono (run20 m lo (planS P) _ (hm.ext y6) rS) ?_
  rintro v h7 ⟨rfl, x7⟩
  have y7 := y6.trans x7
  have b7 := x7.get b6
  have br7 := x7.get br6
  simp only [b7, br7, splice, coreS, Value.cells, Value.oneCell', Nat.reduceAdd, Nat.reduceSub, Nat.reduceMul, Nat.reduceLeDiff, Int.reduceEq, Nat.reduceEqDiff, H44Fs14]
  try rw [hval]
  obtain ⟨sv, hsv⟩ : ∃ v, raV m lo hi' (planS P) = v := ⟨_, rfl⟩
  have own : (runE m lo (planS P) = 22 ∧ raE m lo hi' (planS P) = 22) ∨ (∃ v : Nat, runE m lo (planS P) = 0 ∧ raE m lo hi' (planS P) = 0 ∧ runK m lo (planS P) = (OV.casts P : Nat) ∧ m.ov.run (lo, hi') P = some (v, u)) := by
    cases hrl : m.ov.run (lo, lo) P with
    | none =>
      have hsp : m.ov.run (lo, hi') P = none := by rw [OV.run_span hok P lo hi' l1 l2, hrl]; rfl
      exact .inl ⟨(run_n hc0 l3 hP5 hrl).1, (ra_n hc0 l1 l2 hP5 hsp).1⟩
    | some t =>
      have ht := OV.run_same hok hrl
      obtain ⟨v, v2⟩ := t
      obtain rfl : v2 = v := congrArg Prod.snd ht
      have hsp : m.ov.run (lo, hi') P = some (v2, u) := by rw [OV.run_span hok P lo hi' l1 l2, hrl, hrun]; rfl
      obtain ⟨s1, s2, s3⟩ := run_s hc0 l3 hP5 hrl
      exact .inr ⟨v2, s1, (ra_s hc0 l1 l2 hP5 hsp).1, s3, hsp⟩
  refine CallsH.mono (runAll41 m lo hi' (planS P) _ (hm.ext y7) rS) ?_
  rintro v h8 ⟨rfl, x8⟩
  have y8 := y7.trans x8
  have b8 := x8.get b7
  have br8 := x8.get br7
  simp only [b8, br8, hsv, spV, ratV, splice, coreS, Value.cells, Value.oneCell', Nat.reduceAdd, Nat.reduceSub, Nat.reduceMul, Nat.reduceLeDiff, Int.reduceEq, Nat.reduceEqDiff, H44Fs14]
  refine stK_abs push_new (by simp) fun h9 g9 u9 => ?_
  simp only [splice] at g9
  have x9 : Ext h8 h9 := u9.ext ((Ext.refl h8).push _) (Nat.le_refl _)
  have y9 := y8.trans x9
  have b9 := x9.get b8
  have br9 := x9.get br8
  have hin : m.ov.In (lo, hi') := ⟨l3, l2⟩
  have e3 : ¬ ((22 : Int) = 0) := by decide
  cases hlw : m.ov.lw k (lo, hi') with
  | none =>
    obtain ⟨pE, pP⟩ := su_n hc0 l1 l2 hk2 hlw
    rcases own with ⟨o1, o2⟩ | ⟨v, o1, o2, o3, o4⟩
    ·
      simp only [b9, br9, o1, o2, pE, pP, decide_true, decide_false, Bool.not_true, Bool.not_false, gd_none, splice, coreS, Value.cells, Value.oneCell', Nat.reduceAdd, Nat.reduceSub, Nat.reduceMul, Nat.reduceLeDiff, Int.reduceEq, Nat.reduceEqDiff, H44Fs14]
      refine CallsH.mono (works y9) ?_
      rintro v hW ⟨rfl, xW⟩
      simp only [coreS, Value.cells, Value.oneCell', Nat.reduceAdd, Nat.reduceSub, Nat.reduceMul, Nat.reduceLeDiff, Int.reduceEq, Nat.reduceEqDiff, H44Fs14]
      exact xW
    ·
      have hne : ¬ ((OV.casts P : Int) = k) := by
        intro he
        obtain ⟨x9, hx9, _⟩ := OV.lw_least hok P hin o4
        rw [show OV.casts P = k by omega, hlw] at hx9
        cases hx9
      simp only [b9, br9, o1, o2, pE, pP, decide_true, decide_false, Bool.not_true, Bool.not_false, gd_none, o3, hne, splice, coreS, Value.cells, Value.oneCell', Nat.reduceAdd, Nat.reduceSub, Nat.reduceMul, Nat.reduceLeDiff, Int.reduceEq, Nat.reduceEqDiff, H44Fs14]
      refine CallsH.mono (works y9) ?_
      rintro v hW ⟨rfl, xW⟩
      simp only [coreS, Value.cells, Value.oneCell', Nat.reduceAdd, Nat.reduceSub, Nat.reduceMul, Nat.reduceLeDiff, Int.reduceEq, Nat.reduceEqDiff, H44Fs14]
      exact xW
  | some x =>
    obtain ⟨pE, pP⟩ := su_s hc0 l1 l2 hk2 hlw
    obtain ⟨⟨t0, ht0⟩, hpc, hpl⟩ := OV.pl_run hok hin hlw
    have hxb2 := (OV.span_bound hok hin l1 hlw).1
    have hkn : k * (m.ov.n - 1) ≤ 30 * 15 := Nat.mul_le_mul hk2 (by omega)
    have hQ5 : (m.ov.pl k (lo, hi')).length ≤ 500 := by omega
    generalize m.ov.pl k (lo, hi') = Q at pP ht0 hpc hpl hQ5
    have hsp := OV.run_span hok Q lo hi' l1 l2
    rw [ht0] at hsp
    obtain ⟨A, B, hA, hB, rfl⟩ : ∃ A B, m.ov.run (lo, lo) Q = some (A, A) ∧ m.ov.run (hi', hi') Q = some (B, B) ∧ t0 = (A, B) := by
      cases h1 : m.ov.run (lo, lo) Q with
      | none => rw [h1] at hsp; cases hsp
      | some t1 =>
        cases h2 : m.ov.run (hi', hi') Q with
        | none => rw [h1, h2] at hsp; cases hsp
        | some t2 =>
          rw [h1, h2] at hsp
          have e1 := OV.run_same hok h1
          have e2 := OV.run_same hok h2
          refine ⟨t1.1, t2.1, by rw [← e1], by rw [← e2], ?_⟩
          have : t0 = (t1.1, t2.2) := Option.some.inj hsp
          rw [this, e2]
    obtain ⟨g, hg, hg1, hg2⟩ := OV.run_between hok Q lo i hi' (A, B) hi3 hi4 l2 ht0
    have hspi : m.ov.run (i, hi') Q = some (g, B) := by rw [OV.run_span hok Q i hi' hi4 l2, hg, hB]; rfl
    obtain ⟨r1, r2⟩ := ra_s hc0 l1 l2 hQ5 ht0
    obtain ⟨r3, r4⟩ := ra_s hc0 hi4 l2 hQ5 hspi
    obtain ⟨r5, r6, r7⟩ := run_s hc0 hi2 hQ5 hg
    rw [hpc] at r7
    obtain ⟨yw, hyw, hyl⟩ := OV.lw_least hok Q (s := (i, i)) ⟨hi2, hi2⟩ hg
    rw [hpc] at hyw hyl
    obtain ⟨cE, cW, _⟩ := ce_s hc0 hi2 hk2 hyw
    have qs : (planS Q).size ≤ 9223372036854775807 := by rw [planS_size]; omega
    have ql : ¬ 600 < (planS Q).size := by rw [planS_size]; omega
    have qz : ((planS Q).size : Int) - k = ((Q.length - k : Nat) : Int) := by rw [planS_size]; omega
    have q1 : (A : Int) ≤ g := by simp only at hg1; omega
    have q2 : (g : Int) ≤ B := by simp only at hg2; omega
    have q3 : (yw : Int) ≤ ((Q.length - k : Nat) : Int) := by omega
    rcases own with ⟨o1, o2⟩ | ⟨v, o1, o2, o3, o4⟩
    ·
      simp only [b9, br9, o1, o2, pE, pP, decide_true, decide_false, Bool.not_true, Bool.not_false, gd_none, splice, coreS, Value.cells, Value.oneCell', Nat.reduceAdd, Nat.reduceSub, Nat.reduceMul, Nat.reduceLeDiff, Int.reduceEq, Nat.reduceEqDiff, H44Fs14]
      refine CallsH.mono (long18 (planS Q) _) ?_
      rintro v hS ⟨rfl, rfl⟩
      simp only [b9, br9, ql, decide_false, splice, coreS, Value.cells, Value.oneCell', Nat.reduceAdd, Nat.reduceSub, Nat.reduceMul, Nat.reduceLeDiff, Int.reduceEq, Nat.reduceEqDiff, H44Fs14]
      try rw [hval]
      refine CallsH.mono (runAll41 m lo hi' (planS Q) _ (hm.ext y9) qs) ?_
      rintro v h10 ⟨rfl, x10⟩
      have y10 := y9.trans x10
      have b10 := x10.get b9
      have br10 := x10.get br9
      simp only [b10, br10, r1, r2, spV, ratV, splice, coreS, Value.cells, Value.oneCell', Nat.reduceAdd, Nat.reduceSub, Nat.reduceMul, Nat.reduceLeDiff, Int.reduceEq, Nat.reduceEqDiff, H44Fs14]
      refine stK_abs push_new (by simp) fun h11 g11 u11 => ?_
      simp only [splice] at g11
      have x11 : Ext h10 h11 := u11.ext ((Ext.refl h10).push _) (Nat.le_refl _)
      have y11 := y10.trans x11
      have b11 := x11.get b10
      have br11 := x11.get br10
      have bs11 := g11
      simp only [b11, br11, bs11, splice, coreS, Value.cells, Value.oneCell', Nat.reduceAdd, Nat.reduceSub, Nat.reduceMul, Nat.reduceLeDiff, Int.reduceEq, Nat.reduceEqDiff, H44Fs14]
      refine WP_cut [26, 28, 143, 144, 145, 146, 147, 148, 149, 150, 151] (fun g0 h' => (∃ b, g0 28 = .pointer (some ⟨b, 0, none⟩) ∧ h'[b]? = some (.cells #[.int .i64 (g : Int), .int .i64 (B : Int)] 54)) ∧ g0 26 = .int .i64 0 ∧ Ext h11 h') ?_ ?_
      · refine WP_tree (by kernel_rfl) sta_ext (.quiet 0 (.quiet 1 (.quiet 2 (.quiet 3 (.quiet 4 (.quiet 5 (.quiet 6 (.quiet 7 (.pure 8 (.keep 9 (.one 10 (.quiet 11 (.fin))))))))))))) (by kernel_rfl) rfl (by kernel_rfl) ?_
        simp only [b11, br11, bs11, splice, coreS, Value.cells, Value.oneCell', Nat.reduceAdd, Nat.reduceSub, Nat.reduceMul, Nat.reduceLeDiff, Int.reduceEq, Nat.reduceEqDiff, drawS, treeS, H44Fs14]
        refine cQ_ext _ (fun h' x' => CallsH.mono (to49 i hi' h') fun v h'' q => ⟨q.1, q.2⟩) ?_
        simp only [rgV, b11, br11, bs11, splice, coreS, Value.cells, Value.oneCell', Nat.reduceAdd, Nat.reduceSub, Nat.reduceMul, Nat.reduceLeDiff, Int.reduceEq, Nat.reduceEqDiff, drawS, treeS, H44Fs14]
        try rw [hval]
        refine cQ_ext _ (fun h' x' => CallsH.mono (runAll41 m i hi' (planS Q) h' (hm.ext (y11.trans x')) qs) fun v h'' q => ⟨q.1, q.2⟩) ?_
        simp only [r3, r4, spV, splice, coreS, Value.cells, Value.oneCell', Nat.reduceAdd, Nat.reduceSub, Nat.reduceMul, Nat.reduceLeDiff, Int.reduceEq, Nat.reduceEqDiff, drawS, treeS, H44Fs14]
        refine execT_keep fun hA xA => ?_
        simp only [splice, coreS, Value.cells, Value.oneCell', Nat.reduceAdd, Nat.reduceSub, Nat.reduceMul, Nat.reduceLeDiff, Int.reduceEq, Nat.reduceEqDiff, drawS, treeS, H44Fs14]
        refine ⟨(Ext.refl hA).push _, ?_⟩
        refine execT_one fun hB xB => ?_
        have tB := xB.get (push_new (h := hA))
        simp only [tB, splice, coreS, Value.cells, Value.oneCell', Nat.reduceAdd, Nat.reduceSub, Nat.reduceMul, Nat.reduceLeDiff, Int.reduceEq, Nat.reduceEqDiff, drawS, treeS, H44Fs14]
        refine stK_abs tB (by simp) fun hC gC uC => ?_
        simp only [splice] at gC
        have xx : Ext hA hC := uC.ext xB.of_push (Nat.le_refl _)
        try simp only [coreS, Value.cells, Value.oneCell', Nat.reduceAdd, Nat.reduceSub, Nat.reduceMul, Nat.reduceLeDiff, Int.reduceEq, Nat.reduceEqDiff, drawS, treeS, H44Fs14]
        refine execT_fin fun hD xD => ?_
        simp only [coreS, Value.cells, Value.oneCell', Nat.reduceAdd, Nat.reduceSub, Nat.reduceMul, Nat.reduceLeDiff, Int.reduceEq, Nat.reduceEqDiff, H44Fs14]
        exact midK_mk (by kernel_rfl) ⟨⟨hA.size, rfl, xD.get gC⟩, rfl, (xA.trans xx).trans xD⟩
      rintro f8 h12 ⟨⟨b8_, f8a, c8⟩, f8b, x12⟩
      have y12 := y11.trans x12
      have b12 := x12.get b11
      have br12 := x12.get br11
      have bs12 := x12.get bs11
      have bt12 := c8
      simp only [b12, br12, bs12, bt12, f8a, f8b, splice, coreS, Value.cells, Value.oneCell', Nat.reduceAdd, Nat.reduceSub, Nat.reduceMul, Nat.reduceLeDiff, Int.reduceEq, Nat.reduceEqDiff, H44Fs14]
      try rw [hval]
      refine CallsH.mono (run20 m i (planS Q) _ (hm.ext y12) qs) ?_
      rintro v h13 ⟨rfl, x13⟩
      have y13 := y12.trans x13
      have b13 := x13.get b12
      have br13 := x13.get br12
      have bs13 := x13.get bs12
      have bt13 := x13.get bt12
      simp only [b13, br13, bs13, bt13, r5, r6, r7, f8a, f8b, splice, coreS, Value.cells, Value.oneCell', Nat.reduceAdd, Nat.reduceSub, Nat.reduceMul, Nat.reduceLeDiff, Int.reduceEq, Nat.reduceEqDiff, H44Fs14]
      try rw [hval]
      refine CallsH.mono (fewest24 m i k _ (hm.ext y13)) ?_
      rintro v h14 ⟨rfl, x14⟩
      have y14 := y13.trans x14
      have b14 := x14.get b13
      have br14 := x14.get br13
      have bs14 := x14.get bs13
      have bt14 := x14.get bt13
      simp only [b14, br14, bs14, bt14, cE, cW, r5, r6, r7, f8a, f8b, qz, q1, q2, q3, decide_true, decide_false, Bool.not_true, Bool.not_false, gd_none, splice, coreS, Value.cells, Value.oneCell', Nat.reduceAdd, Nat.reduceSub, Nat.reduceMul, Nat.reduceLeDiff, Int.reduceEq, Nat.reduceEqDiff, H44Fs14]
      repeat (refine And.intro (by first | omega | (rw [inK_i64]; omega) | rfl | assumption | (decide)) ?_)
      try simp only [b14, br14, bs14, bt14, cE, cW, r5, r6, r7, f8a, f8b, qz, q1, q2, q3, decide_true, decide_false, Bool.not_true, Bool.not_false, gd_none, splice, coreS, Value.cells, Value.oneCell', Nat.reduceAdd, Nat.reduceSub, Nat.reduceMul, Nat.reduceLeDiff, Int.reduceEq, Nat.reduceEqDiff, H44Fs14]
      refine CallsH.mono (works y14) ?_
      rintro v hW ⟨rfl, xW⟩
      simp only [coreS, Value.cells, Value.oneCell', Nat.reduceAdd, Nat.reduceSub, Nat.reduceMul, Nat.reduceLeDiff, Int.reduceEq, Nat.reduceEqDiff, H44Fs14]
      exact xW
    ·
      obtain ⟨bb, hbb⟩ : ∃ b, decide ((OV.casts P : Int) = k) = b := ⟨_, rfl⟩
      have key : ∀ bb : Bool, (if bb = true then Value.bool false else Value.bool false) = .bool false := fun b => by cases b <;> rfl
      simp only [b9, br9, o1, o2, pE, pP, decide_true, decide_false, Bool.not_true, Bool.not_false, gd_none, o3, hbb, splice, coreS, Value.cells, Value.oneCell', Nat.reduceAdd, Nat.reduceSub, Nat.reduceMul, Nat.reduceLeDiff, Int.reduceEq, Nat.reduceEqDiff, H44Fs14]
      cases bb <;> try simp only [o1, o2, pE, pP, decide_true, decide_false, Bool.not_true, Bool.not_false, gd_none, o3, hbb, splice, coreS, Value.cells, Value.oneCell', Nat.reduceAdd, Nat.reduceSub, Nat.reduceMul, Nat.reduceLeDiff, Int.reduceEq, Nat.reduceEqDiff, H44Fs14]
      all_goals
        refine CallsH.mono (long18 (planS Q) _) ?_
        rintro v hS ⟨rfl, rfl⟩
        simp only [b9, br9, ql, decide_false, splice, coreS, Value.cells, Value.oneCell', Nat.reduceAdd, Nat.reduceSub, Nat.reduceMul, Nat.reduceLeDiff, Int.reduceEq, Nat.reduceEqDiff, H44Fs14]
        try rw [hval]
        refine CallsH.mono (runAll41 m lo hi' (planS Q) _ (hm.ext y9) qs) ?_
        rintro v h10 ⟨rfl, x10⟩
        have y10 := y9.trans x10
        have b10 := x10.get b9
        have br10 := x10.get br9
        simp only [b10, br10, r1, r2, spV, ratV, splice, coreS, Value.cells, Value.oneCell', Nat.reduceAdd, Nat.reduceSub, Nat.reduceMul, Nat.reduceLeDiff, Int.reduceEq, Nat.reduceEqDiff, H44Fs14]
        refine stK_abs push_new (by simp) fun h11 g11 u11 => ?_
        simp only [splice] at g11
        have x11 : Ext h10 h11 := u11.ext ((Ext.refl h10).push _) (Nat.le_refl _)
        have y11 := y10.trans x11
        have b11 := x11.get b10
        have br11 := x11.get br10
        have bs11 := g11
        simp only [b11, br11, bs11, splice, coreS, Value.cells, Value.oneCell', Nat.reduceAdd, Nat.reduceSub, Nat.reduceMul, Nat.reduceLeDiff, Int.reduceEq, Nat.reduceEqDiff, H44Fs14]
        refine WP_cut [26, 28, 143, 144, 145, 146, 147, 148, 149, 150, 151] (fun g0 h' => (∃ b, g0 28 = .pointer (some ⟨b, 0, none⟩) ∧ h'[b]? = some (.cells #[.int .i64 (g : Int), .int .i64 (B : Int)] 54)) ∧ g0 26 = .int .i64 0 ∧ Ext h11 h') ?_ ?_
        · refine WP_tree (by kernel_rfl) sta_ext (.quiet 0 (.quiet 1 (.quiet 2 (.quiet 3 (.quiet 4 (.quiet 5 (.quiet 6 (.quiet 7 (.pure 8 (.keep 9 (.one 10 (.quiet 11 (.fin))))))))))))) (by kernel_rfl) rfl (by kernel_rfl) ?_
          simp only [b11, br11, bs11, splice, coreS, Value.cells, Value.oneCell', Nat.reduceAdd, Nat.reduceSub, Nat.reduceMul, Nat.reduceLeDiff, Int.reduceEq, Nat.reduceEqDiff, drawS, treeS, H44Fs14]
          refine cQ_ext _ (fun h' x' => CallsH.mono (to49 i hi' h') fun v h'' q => ⟨q.1, q.2⟩) ?_
          simp only [rgV, b11, br11, bs11, splice, coreS, Value.cells, Value.oneCell', Nat.reduceAdd, Nat.reduceSub, Nat.reduceMul, Nat.reduceLeDiff, Int.reduceEq, Nat.reduceEqDiff, drawS, treeS, H44Fs14]
          try rw [hval]
          refine cQ_ext _ (fun h' x' => CallsH.mono (runAll41 m i hi' (planS Q) h' (hm.ext (y11.trans x')) qs) fun v h'' q => ⟨q.1, q.2⟩) ?_
          simp only [r3, r4, spV, splice, coreS, Value.cells, Value.oneCell', Nat.reduceAdd, Nat.reduceSub, Nat.reduceMul, Nat.reduceLeDiff, Int.reduceEq, Nat.reduceEqDiff, drawS, treeS, H44Fs14]
          refine execT_keep fun hA xA => ?_
          simp only [splice, coreS, Value.cells, Value.oneCell', Nat.reduceAdd, Nat.reduceSub, Nat.reduceMul, Nat.reduceLeDiff, Int.reduceEq, Nat.reduceEqDiff, drawS, treeS, H44Fs14]
          refine ⟨(Ext.refl hA).push _, ?_⟩
          refine execT_one fun hB xB => ?_
          have tB := xB.get (push_new (h := hA))
          simp only [tB, splice, coreS, Value.cells, Value.oneCell', Nat.reduceAdd, Nat.reduceSub, Nat.reduceMul, Nat.reduceLeDiff, Int.reduceEq, Nat.reduceEqDiff, drawS, treeS, H44Fs14]
          refine stK_abs tB (by simp) fun hC gC uC => ?_
          simp only [splice] at gC
          have xx : Ext hA hC := uC.ext xB.of_push (Nat.le_refl _)
          try simp only [coreS, Value.cells, Value.oneCell', Nat.reduceAdd, Nat.reduceSub, Nat.reduceMul, Nat.reduceLeDiff, Int.reduceEq, Nat.reduceEqDiff, drawS, treeS, H44Fs14]
          refine execT_fin fun hD xD => ?_
          simp only [coreS, Value.cells, Value.oneCell', Nat.reduceAdd, Nat.reduceSub, Nat.reduceMul, Nat.reduceLeDiff, Int.reduceEq, Nat.reduceEqDiff, H44Fs14]
          exact midK_mk (by kernel_rfl) ⟨⟨hA.size, rfl, xD.get gC⟩, rfl, (xA.trans xx).trans xD⟩
        rintro f8 h12 ⟨⟨b8_, f8a, c8⟩, f8b, x12⟩
        have y12 := y11.trans x12
        have b12 := x12.get b11
        have br12 := x12.get br11
        have bs12 := x12.get bs11
        have bt12 := c8
        simp only [b12, br12, bs12, bt12, f8a, f8b, splice, coreS, Value.cells, Value.oneCell', Nat.reduceAdd, Nat.reduceSub, Nat.reduceMul, Nat.reduceLeDiff, Int.reduceEq, Nat.reduceEqDiff, H44Fs14]
        try rw [hval]
        refine CallsH.mono (run20 m i (planS Q) _ (hm.ext y12) qs) ?_
        rintro v h13 ⟨rfl, x13⟩
        have y13 := y12.trans x13
        have b13 := x13.get b12
        have br13 := x13.get br12
        have bs13 := x13.get bs12
        have bt13 := x13.get bt12
        simp only [b13, br13, bs13, bt13, r5, r6, r7, f8a, f8b, splice, coreS, Value.cells, Value.oneCell', Nat.reduceAdd, Nat.reduceSub, Nat.reduceMul, Nat.reduceLeDiff, Int.reduceEq, Nat.reduceEqDiff, H44Fs14]
        try rw [hval]
        refine CallsH.mono (fewest24 m i k _ (hm.ext y13)) ?_
        rintro v h14 ⟨rfl, x14⟩
        have y14 := y13.trans x14
        have b14 := x14.get b13
        have br14 := x14.get br13
        have bs14 := x14.get bs13
        have bt14 := x14.get bt13
        simp only [b14, br14, bs14, bt14, cE, cW, r5, r6, r7, f8a, f8b, qz, q1, q2, q3, decide_true, decide_false, Bool.not_true, Bool.not_false, gd_none, splice, coreS, Value.cells, Value.oneCell', Nat.reduceAdd, Nat.reduceSub, Nat.reduceMul, Nat.reduceLeDiff, Int.reduceEq, Nat.reduceEqDiff, H44Fs14]
        repeat (refine And.intro (by first | omega | (rw [inK_i64]; omega) | rfl | assumption | (decide)) ?_)
        try simp only [b14, br14, bs14, bt14, cE, cW, r5, r6, r7, f8a, f8b, qz, q1, q2, q3, decide_true, decide_false, Bool.not_true, Bool.not_false, gd_none, splice, coreS, Value.cells, Value.oneCell', Nat.reduceAdd, Nat.reduceSub, Nat.reduceMul, Nat.reduceLeDiff, Int.reduceEq, Nat.reduceEqDiff, H44Fs14]
        refine CallsH.mono (works y14) ?_
        rintro v hW ⟨rfl, xW⟩
        simp only [coreS, Value.cells, Value.oneCell', Nat.reduceAdd, Nat.reduceSub, Nat.reduceMul, Nat.reduceLeDiff, Int.reduceEq, Nat.reduceEqDiff, H44Fs14]
        exact xW
end Go.Proofs.YtafemfjhflfdeaaDoor
