/- HeatRate returns true. -/
import Derived.Test.YtafemfjhflfdeaaDoorPB13
namespace Go.Proofs.YtafemfjhflfdeaaDoor
open Go Go.Proofs Go.Eng Go.Run Tab
set_option maxRecDepth 100000
set_option linter.unusedSimpArgs false
set_option linter.unusedVariables false
set_option linter.defProp false
set_option maxHeartbeats 8000000
set_option linter.defProp false
def H42Fs12 := (And.intro (And.intro (And.intro (And.intro @agg2 @agg22) (And.intro @agg24 (And.intro @agg45 @fo24_0))) (And.intro (And.intro @fo45_0 @fo45_1) (And.intro @inf2 (And.intro @inf22 @inf24)))) (And.intro (And.intro (And.intro @inf45 @sz2) (And.intro @sz22 (And.intro @sz24 @sz45))) (And.intro (And.intro @zero45 @Tryd.underlying3) (And.intro @Tryd.underlying5 (And.intro @Tryd.underlying22 @Tryd.underlying63)))))
/-- The law of rounds that are given. -/
theorem given_round {m : MV} (hc : chk m = 0) {i : Nat} (hi : i < m.casts.length) (hlw : (m.ov.lw m.casts.length (i, i)).isSome) {p q : List Bool} (hl1 : p.length ≤ 500) (hl2 : q.length ≤ 500) (h : ckrE m i (planS p) (planS q) = 0) {v : Nat × Nat} (hv : ckrV m i (planS p) (planS q) = v) :
    (1 ≤ v.2 ∧ v.2 ≤ 500 ∧ v.1 ≤ 500 ∧ OV.byP v.1 v.2 = v) ∧ (m.ov.rate i).1 * v.2 ≤ v.1 * (m.ov.rate i).2 := by
  obtain ⟨u, hu, h1, h2, h3, h4⟩ := ckr_pos hc hi hl1 hl2 h
  rw [hv] at h4
  subst h4
  have hok := (good_of hc).ok
  have hle := OV.byP_le (a := q.length - OV.casts q) (b := OV.casts q)
  have hcq := OV.casts_le q
  obtain ⟨_, _, _, _, h5⟩ := OV.byP_eq (a := q.length - OV.casts q) h3
  refine ⟨⟨h5, by omega, by omega, OV.byP_again h3⟩, ?_⟩
  exact OV.byP_leQ h3 (OV.rate_round hok hi hlw (OV.casts q) q u p (Nat.le_refl _) h1 h2 h3 (by rw [OV.far_eq]; omega))
theorem prod_atom (a b B C : Nat) (ha : a ≤ B) (hb : b ≤ C) : ∃ p : Nat, a * b = p ∧ (a : Int) * (b : Int) = (p : Int) ∧ p ≤ B * C := ⟨a * b, rfl, by omega, Nat.mul_le_mul ha hb⟩
theorem rate12 (m : MV) (w q : Int) (a : Option Addr) (n c : Nat) (xs : List Int) (a2 : Option Addr) (n2 c2 : Nat) (zs : List Int) (h : Eng.Heap) (hc : IntsV h m.a m.casts.length m.casts) (hw : IntsV h m.b m.waits.length m.waits) (hwb : 0 ≤ w ∧ w ≤ 255) (hqb : 0 ≤ q ∧ q ≤ 255) (hnb : n = xs.length ∧ n ≤ c) (hrb : Row h a (bytesV xs)) (hmb : n ≤ 9223372036854775807) (hxb : ∀ x ∈ xs, 0 ≤ x ∧ x ≤ 255) (hnd : n2 = zs.length ∧ n2 ≤ c2) (hrd : Row h a2 (bytesV zs)) (hmd : n2 ≤ 9223372036854775807) (hxd : ∀ x ∈ zs, 0 ≤ x ∧ x ≤ 255) :
    CallsH Tryd.prog 12 #[m.val, .int .u8 w, .int .u8 q, .slice a n c, .slice a2 n2 c2] h (fun v h' => v = .bool true ∧ Ext h h') := by
  (refine CallsH_of_exec Tryd.func12 rfl bod12 ?_; simp only [Tryd.ntmps12, Tryd.results12, coreS, stK_some, splice, Value.cells, Value.oneCell', Nat.reduceAdd, Nat.reduceSub, Nat.reduceMul, Nat.reduceLeDiff, Int.reduceEq, Nat.reduceEqDiff, H42Fs12])
  have hb := push_new (h := h) (o := .cells #[.slice m.a m.casts.length m.ca, .slice m.b m.waits.length m.cb, .int .i64 m.lo, .int .i64 m.hi] 24)
  have y0 : Ext h (h.push (.cells #[.slice m.a m.casts.length m.ca, .slice m.b m.waits.length m.cb, .int .i64 m.lo, .int .i64 m.hi] 24)) := (Ext.refl h).push _
  have hval : Value.agg #[.slice m.a m.casts.length m.ca, .slice m.b m.waits.length m.cb, .int .i64 m.lo, .int .i64 m.hi] = m.val := rfl
  have works : ∀ {h2 : Eng.Heap}, Ext h h2 → CallsH Tryd.prog 19 #[] h2 (fun v h' => v = .bool true ∧ Ext h h') := fun x => CallsH.mono (works19 _) fun v h' q => ⟨q.1, x.trans q.2⟩
  have b0 := hb
  refine CallsH.mono (fine47 m _ (hc.ext y0) (hw.ext y0)) ?_
  rintro v h1 ⟨rfl, x1⟩
  have y1 := y0.trans x1
  have b1 := x1.get b0
  by_cases hf : okM m = true
  case neg =>
    have hf2 : okM m = false := by simpa using hf
    simp only [hf2, Bool.not_false, gd_none, coreS, Value.cells, Value.oneCell', Nat.reduceAdd, Nat.reduceSub, Nat.reduceMul, Nat.reduceLeDiff, Int.reduceEq, Nat.reduceEqDiff, H42Fs12]
    refine CallsH.mono (works y1) ?_
    rintro v hW ⟨rfl, xW⟩
    simp only [coreS, Value.cells, Value.oneCell', Nat.reduceAdd, Nat.reduceSub, Nat.reduceMul, Nat.reduceLeDiff, Int.reduceEq, Nat.reduceEqDiff, H42Fs12]
    exact xW
  obtain ⟨hg, hc0⟩ := okM_iff.1 hf
  have hm : m.ok h := ⟨hc, hw, by omega, by omega⟩
  have gd := good_of hc0
  have h16 := (chk_pos hc0).1
  have hok := gd.ok
  have hnn : m.ov.n = m.casts.length := rfl
  by_cases hl : 100 < n
  case pos =>
    have hl2 : (100 : Int) < n := by omega
    simp only [hf, hl2, decide_true, Bool.not_true, gd_none, coreS, Value.cells, Value.oneCell', Nat.reduceAdd, Nat.reduceSub, Nat.reduceMul, Nat.reduceLeDiff, Int.reduceEq, Nat.reduceEqDiff, H42Fs12]
    refine CallsH.mono (works y1) ?_
    rintro v hW ⟨rfl, xW⟩
    simp only [coreS, Value.cells, Value.oneCell', Nat.reduceAdd, Nat.reduceSub, Nat.reduceMul, Nat.reduceLeDiff, Int.reduceEq, Nat.reduceEqDiff, H42Fs12]
    exact xW
  have hl2 : ¬ (100 : Int) < n := by omega
  have hnb1 := hnb.1
  have hnd1 := hnd.1
  by_cases hl3 : 100 < n2
  case pos =>
    have hl4 : (100 : Int) < n2 := by omega
    simp only [hf, hl2, hl4, decide_true, decide_false, Bool.not_true, gd_none, coreS, Value.cells, Value.oneCell', Nat.reduceAdd, Nat.reduceSub, Nat.reduceMul, Nat.reduceLeDiff, Int.reduceEq, Nat.reduceEqDiff, H42Fs12]
    refine CallsH.mono (works y1) ?_
    rintro v hW ⟨rfl, xW⟩
    simp only [coreS, Value.cells, Value.oneCell', Nat.reduceAdd, Nat.reduceSub, Nat.reduceMul, Nat.reduceLeDiff, Int.reduceEq, Nat.reduceEqDiff, H42Fs12]
    exact xW
  have hl4 : ¬ (100 : Int) < n2 := by omega
  obtain ⟨i, hi, ei⟩ := tmod_idx (w := w) (c := (m.casts.length : Int)) hwb.1 (by omega)
  obtain ⟨k, hk, ek⟩ := tmod_idx (w := q) (c := 31) hqb.1 (by omega)
  have hi2 : i < m.casts.length := by omega
  have hk2 : k ≤ 30 := by omega
  have hol : (oddL xs).length ≤ 100 := by rw [oddL_length]; omega
  have hoz : (oddL zs).length ≤ 100 := by rw [oddL_length]; omega
  simp only [b1, hf, hl2, hl4, ei, ek, decide_false, Bool.not_true, gd_none, splice, coreS, Value.cells, Value.oneCell', Nat.reduceAdd, Nat.reduceSub, Nat.reduceMul, Nat.reduceLeDiff, Int.reduceEq, Nat.reduceEqDiff, H42Fs12]
  repeat (refine And.intro (by first | omega | (rw [inK_i64]; omega) | rfl | assumption | (decide)) ?_)
  try simp only [b1, ei, ek, splice, coreS, Value.cells, Value.oneCell', Nat.reduceAdd, Nat.reduceSub, Nat.reduceMul, Nat.reduceLeDiff, Int.reduceEq, Nat.reduceEqDiff, H42Fs12]
  try rw [hval]
  cases hmost : m.ov.most i with
  | some k0 =>
    obtain ⟨vE, vW, rE, rV⟩ := mo_s hc0 hi2 hmost
    refine CallsH.mono (rate37 m i _ (hm.ext y1)) ?_
    rintro v h2 ⟨rfl, x2⟩
    have y2 := y1.trans x2
    have b2 := x2.get b1
    simp only [b2, rV, rE, ratV, splice, coreS, Value.cells, Value.oneCell', Nat.reduceAdd, Nat.reduceSub, Nat.reduceMul, Nat.reduceLeDiff, Int.reduceEq, Nat.reduceEqDiff, H42Fs12]
    refine stK_abs push_new (by simp) fun h3 g3 u3 => ?_
    simp only [splice] at g3
    have x3 : Ext h2 h3 := u3.ext ((Ext.refl h2).push _) (Nat.le_refl _)
    have y3 := y2.trans x3
    have b3 := x3.get b2
    have bx3 := g3
    try rw [hval]
    simp only [b3, bx3, splice, coreS, Value.cells, Value.oneCell', Nat.reduceAdd, Nat.reduceSub, Nat.reduceMul, Nat.reduceLeDiff, Int.reduceEq, Nat.reduceEqDiff, H42Fs12]
    try rw [hval]
    refine CallsH.mono (round39 m i _ (hm.ext y3)) ?_
    rintro v h4 ⟨hR, x4⟩
    have y4 := y3.trans x4
    have b4 := x4.get b3
    have bx4 := x4.get bx3
    obtain rfl := rov_ne (by rw [rE]; decide) hR
    simp only [b4, bx4, rE, splice, coreS, Value.cells, Value.oneCell', Nat.reduceAdd, Nat.reduceSub, Nat.reduceMul, Nat.reduceLeDiff, Int.reduceEq, Nat.reduceEqDiff, H42Fs12]
    try rw [hval]
    refine CallsH.mono (working48 m gd i a n c xs _ (hm.ext y4) hi2 hnb1 (hrb.ext y4) hxb (by omega)) ?_
    rintro v h5 ⟨rfl, x5⟩
    have y5 := y4.trans x5
    have b5 := x5.get b4
    have bx5 := x5.get bx4
    obtain ⟨u9, hu9, hrun, hlen, _, _, _, rS⟩ := wk_vals hc0 hi2 hol
    generalize m.ov.wk i (oddL xs) = P at hrun hlen rS ⊢
    have hP5 : P.length ≤ 500 := by omega
    obtain ⟨yv, hyv⟩ : ∃ v, ckrV m i (planS P) (planS (oddL zs)) = v := ⟨_, rfl⟩
    obtain ⟨E3, hE3⟩ : ∃ v, ckrE m i (planS P) (planS (oddL zs)) = v := ⟨_, rfl⟩
    simp only [b5, bx5, splice, coreS, Value.cells, Value.oneCell', Nat.reduceAdd, Nat.reduceSub, Nat.reduceMul, Nat.reduceLeDiff, Int.reduceEq, Nat.reduceEqDiff, H42Fs12]
    refine WP_cut [20, 21, 67, 68, 69, 70, 71, 72, 73, 74, 75] (fun g h' => (∃ b, g 20 = .pointer (some ⟨b, 0, none⟩) ∧ h'[b]? = some (.cells #[.int .i64 (yv.1 : Int), .int .i64 (yv.2 : Int)] 45)) ∧ g 21 = .int .i64 E3 ∧ Ext h5 h') ?_ ?_
    · refine WP_tree (by kernel_rfl) sta_ext (.quiet 0 (.quiet 1 (.quiet 2 (.quiet 3 (.quiet 4 (.quiet 5 (.quiet 6 (.quiet 7 (.pure 8 (.keep 9 (.one 10 (.quiet 11 (.fin))))))))))))) (by kernel_rfl) rfl (by kernel_rfl) ?_
      simp only [b5, bx5, splice, coreS, Value.cells, Value.oneCell', Nat.reduceAdd, Nat.reduceSub, Nat.reduceMul, Nat.reduceLeDiff, Int.reduceEq, Nat.reduceEqDiff, drawS, treeS, H42Fs12]
      refine cQ_ext _ (fun h' x' => CallsH.mono (letters50 a2 n2 c2 zs h' hnd1 (hrd.ext (y5.trans x')) hxd (by omega)) fun v h'' q => ⟨q.1, by rw [q.2]; exact Ext.refl _⟩) ?_
      simp only [b5, bx5, splice, coreS, Value.cells, Value.oneCell', Nat.reduceAdd, Nat.reduceSub, Nat.reduceMul, Nat.reduceLeDiff, Int.reduceEq, Nat.reduceEqDiff, drawS, treeS, H42Fs12]
      try rw [hval]
      refine cQ_ext _ (fun h' x' => CallsH.mono (ckr35 m i (planS P) (planS (oddL zs)) h' (hm.ext (y5.trans x')) rS (by rw [planS_size]; omega)) fun v h'' q => ⟨q.1, q.2⟩) ?_
      simp only [hyv, hE3, ratV, splice, coreS, Value.cells, Value.oneCell', Nat.reduceAdd, Nat.reduceSub, Nat.reduceMul, Nat.reduceLeDiff, Int.reduceEq, Nat.reduceEqDiff, drawS, treeS, H42Fs12]
      refine execT_keep fun hA xA => ?_
      simp only [splice, coreS, Value.cells, Value.oneCell', Nat.reduceAdd, Nat.reduceSub, Nat.reduceMul, Nat.reduceLeDiff, Int.reduceEq, Nat.reduceEqDiff, drawS, treeS, H42Fs12]
      refine ⟨(Ext.refl hA).push _, ?_⟩
      refine execT_one fun hB xB => ?_
      have tB := xB.get (push_new (h := hA))
      simp only [tB, splice, coreS, Value.cells, Value.oneCell', Nat.reduceAdd, Nat.reduceSub, Nat.reduceMul, Nat.reduceLeDiff, Int.reduceEq, Nat.reduceEqDiff, drawS, treeS, H42Fs12]
      refine stK_abs tB (by simp) fun hC gC uC => ?_
      simp only [splice] at gC
      have xx : Ext hA hC := uC.ext xB.of_push (Nat.le_refl _)
      try simp only [coreS, Value.cells, Value.oneCell', Nat.reduceAdd, Nat.reduceSub, Nat.reduceMul, Nat.reduceLeDiff, Int.reduceEq, Nat.reduceEqDiff, drawS, treeS, H42Fs12]
      refine execT_fin fun hD xD => ?_
      simp only [coreS, Value.cells, Value.oneCell', Nat.reduceAdd, Nat.reduceSub, Nat.reduceMul, Nat.reduceLeDiff, Int.reduceEq, Nat.reduceEqDiff, H42Fs12]
      exact midK_mk (by kernel_rfl) ⟨⟨hA.size, rfl, xD.get gC⟩, rfl, (xA.trans xx).trans xD⟩
    rintro f8 h6 ⟨⟨b8_, f8a, c8⟩, f8b, x6⟩
    have y6 := y5.trans x6
    have b6 := x6.get b5
    have bx6 := x6.get bx5
    have by6 := c8
    have hne : E3 ≠ 0 := by
      intro h0
      obtain ⟨u8, hu8, g1, g2, g3, _⟩ := ckr_pos hc0 hi2 hP5 (by omega) (hE3.trans h0)
      obtain ⟨x9, hx9⟩ := OV.round_any hok hi2 g1 g2 g3 (k0 + 1)
      rw [(OV.most_some hmost).2.1] at hx9
      cases hx9
    simp only [b6, bx6, by6, f8a, f8b, hne, decide_true, decide_false, Bool.not_true, Bool.not_false, gd_none, splice, coreS, Value.cells, Value.oneCell', Nat.reduceAdd, Nat.reduceSub, Nat.reduceMul, Nat.reduceLeDiff, Int.reduceEq, Nat.reduceEqDiff, H42Fs12]
    refine CallsH.mono (works y6) ?_
    rintro v hW ⟨rfl, xW⟩
    simp only [coreS, Value.cells, Value.oneCell', Nat.reduceAdd, Nat.reduceSub, Nat.reduceMul, Nat.reduceLeDiff, Int.reduceEq, Nat.reduceEqDiff, H42Fs12]
    exact xW
  | none =>
    obtain ⟨vE, vW, rE, rV⟩ := mo_n hc0 hi2 hmost
    have hlw : (m.ov.lw m.ov.n (i, i)).isSome := by
      obtain ⟨x9, hx9⟩ := OV.most_none hok hi2 hmost m.ov.n
      rw [hx9]; rfl
    obtain ⟨s2, s3, s1, s4⟩ := OV.rate_small hok hi2 hlw
    obtain ⟨wt, hwt⟩ := OV.most_none hok hi2 hmost k
    obtain ⟨cE, cW, _⟩ := ce_s hc0 hi2 hk2 hwt
    have hwl := lw_le gd h16.2 (s := (i, i)) ⟨hi2, hi2⟩ hwt
    obtain ⟨⟨t9, ht9⟩, hpc, hpl⟩ := OV.pl_run hok (s := (i, i)) ⟨hi2, hi2⟩ hwt
    have hrp := OV.rate_plan hok hi2 hlw k _ t9 (by omega) ht9 (by rw [OV.far_eq]; omega)
    rw [hpc, hpl, Nat.add_sub_cancel_left] at hrp
    have hgr : ∀ {P Q : List Bool} {v : Nat × Nat}, P.length ≤ 500 → Q.length ≤ 500 → ckrE m i (planS P) (planS Q) = 0 → ckrV m i (planS P) (planS Q) = v → (1 ≤ v.2 ∧ v.2 ≤ 500 ∧ v.1 ≤ 500 ∧ OV.byP v.1 v.2 = v) ∧ (m.ov.rate i).1 * v.2 ≤ v.1 * (m.ov.rate i).2 := fun h1 h2 h3 h4 => given_round hc0 hi2 hlw h1 h2 h3 h4
    generalize m.ov.rate i = X at rV s1 s2 s3 s4 hrp hgr
    refine CallsH.mono (rate37 m i _ (hm.ext y1)) ?_
    rintro v h2 ⟨rfl, x2⟩
    have y2 := y1.trans x2
    have b2 := x2.get b1
    simp only [b2, rV, rE, ratV, splice, coreS, Value.cells, Value.oneCell', Nat.reduceAdd, Nat.reduceSub, Nat.reduceMul, Nat.reduceLeDiff, Int.reduceEq, Nat.reduceEqDiff, H42Fs12]
    refine stK_abs push_new (by simp) fun h3 g3 u3 => ?_
    simp only [splice] at g3
    have x3 : Ext h2 h3 := u3.ext ((Ext.refl h2).push _) (Nat.le_refl _)
    have y3 := y2.trans x3
    have b3 := x3.get b2
    have bx3 := g3
    try rw [hval]
    simp only [b3, bx3, splice, coreS, Value.cells, Value.oneCell', Nat.reduceAdd, Nat.reduceSub, Nat.reduceMul, Nat.reduceLeDiff, Int.reduceEq, Nat.reduceEqDiff, H42Fs12]
    try rw [hval]
    refine CallsH.mono (round39 m i _ (hm.ext y3)) ?_
    rintro v h4 ⟨hR, x4⟩
    have y4 := y3.trans x4
    have b4 := x4.get b3
    have bx4 := x4.get bx3
    obtain ⟨p, q2, u, rfl, hp1, hp2, hp3, hp4⟩ := rov_zero rE hR
    rw [Int.toNat_natCast] at hp1
    simp only [b4, bx4, rE, splice, coreS, Value.cells, Value.oneCell', Nat.reduceAdd, Nat.reduceSub, Nat.reduceMul, Nat.reduceLeDiff, Int.reduceEq, Nat.reduceEqDiff, H42Fs12]
    try rw [hval]
    refine CallsH.mono (working48 m gd i a n c xs _ (hm.ext y4) hi2 hnb1 (hrb.ext y4) hxb (by omega)) ?_
    rintro v h5 ⟨rfl, x5⟩
    have y5 := y4.trans x5
    have b5 := x5.get b4
    have bx5 := x5.get bx4
    obtain ⟨u9, hu9, hrun, hlen, _, _, _, rS⟩ := wk_vals hc0 hi2 hol
    generalize m.ov.wk i (oddL xs) = P at hrun hlen rS ⊢
    have hP5 : P.length ≤ 500 := by omega
    obtain ⟨yv, hyv⟩ : ∃ v, ckrV m i (planS P) (planS (oddL zs)) = v := ⟨_, rfl⟩
    obtain ⟨E3, hE3⟩ : ∃ v, ckrE m i (planS P) (planS (oddL zs)) = v := ⟨_, rfl⟩
    simp only [b5, bx5, splice, coreS, Value.cells, Value.oneCell', Nat.reduceAdd, Nat.reduceSub, Nat.reduceMul, Nat.reduceLeDiff, Int.reduceEq, Nat.reduceEqDiff, H42Fs12]
    refine WP_cut [20, 21, 67, 68, 69, 70, 71, 72, 73, 74, 75] (fun g h' => (∃ b, g 20 = .pointer (some ⟨b, 0, none⟩) ∧ h'[b]? = some (.cells #[.int .i64 (yv.1 : Int), .int .i64 (yv.2 : Int)] 45)) ∧ g 21 = .int .i64 E3 ∧ Ext h5 h') ?_ ?_
    · refine WP_tree (by kernel_rfl) sta_ext (.quiet 0 (.quiet 1 (.quiet 2 (.quiet 3 (.quiet 4 (.quiet 5 (.quiet 6 (.quiet 7 (.pure 8 (.keep 9 (.one 10 (.quiet 11 (.fin))))))))))))) (by kernel_rfl) rfl (by kernel_rfl) ?_
      simp only [b5, bx5, splice, coreS, Value.cells, Value.oneCell', Nat.reduceAdd, Nat.reduceSub, Nat.reduceMul, Nat.reduceLeDiff, Int.reduceEq, Nat.reduceEqDiff, drawS, treeS, H42Fs12]
      refine cQ_ext _ (fun h' x' => CallsH.mono (letters50 a2 n2 c2 zs h' hnd1 (hrd.ext (y5.trans x')) hxd (by omega)) fun v h'' q => ⟨q.1, by rw [q.2]; exact Ext.refl _⟩) ?_
      simp only [b5, bx5, splice, coreS, Value.cells, Value.oneCell', Nat.reduceAdd, Nat.reduceSub, Nat.reduceMul, Nat.reduceLeDiff, Int.reduceEq, Nat.reduceEqDiff, drawS, treeS, H42Fs12]
      try rw [hval]
      refine cQ_ext _ (fun h' x' => CallsH.mono (ckr35 m i (planS P) (planS (oddL zs)) h' (hm.ext (y5.trans x')) rS (by rw [planS_size]; omega)) fun v h'' q => ⟨q.1, q.2⟩) ?_
      simp only [hyv, hE3, ratV, splice, coreS, Value.cells, Value.oneCell', Nat.reduceAdd, Nat.reduceSub, Nat.reduceMul, Nat.reduceLeDiff, Int.reduceEq, Nat.reduceEqDiff, drawS, treeS, H42Fs12]
      refine execT_keep fun hA xA => ?_
      simp only [splice, coreS, Value.cells, Value.oneCell', Nat.reduceAdd, Nat.reduceSub, Nat.reduceMul, Nat.reduceLeDiff, Int.reduceEq, Nat.reduceEqDiff, drawS, treeS, H42Fs12]
      refine ⟨(Ext.refl hA).push _, ?_⟩
      refine execT_one fun hB xB => ?_
      have tB := xB.get (push_new (h := hA))
      simp only [tB, splice, coreS, Value.cells, Value.oneCell', Nat.reduceAdd, Nat.reduceSub, Nat.reduceMul, Nat.reduceLeDiff, Int.reduceEq, Nat.reduceEqDiff, drawS, treeS, H42Fs12]
      refine stK_abs tB (by simp) fun hC gC uC => ?_
      simp only [splice] at gC
      have xx : Ext hA hC := uC.ext xB.of_push (Nat.le_refl _)
      try simp only [coreS, Value.cells, Value.oneCell', Nat.reduceAdd, Nat.reduceSub, Nat.reduceMul, Nat.reduceLeDiff, Int.reduceEq, Nat.reduceEqDiff, drawS, treeS, H42Fs12]
      refine execT_fin fun hD xD => ?_
      simp only [coreS, Value.cells, Value.oneCell', Nat.reduceAdd, Nat.reduceSub, Nat.reduceMul, Nat.reduceLeDiff, Int.reduceEq, Nat.reduceEqDiff, H42Fs12]
      exact midK_mk (by kernel_rfl) ⟨⟨hA.size, rfl, xD.get gC⟩, rfl, (xA.trans xx).trans xD⟩
    rintro f8 h6 ⟨⟨b8_, f8a, c8⟩, f8b, x6⟩
    have y6 := y5.trans x6
    have b6 := x6.get b5
    have bx6 := x6.get bx5
    have by6 := c8
    have hcr := ckr_of (m := m) (x := i) (p := p) (q := q2) (u := u) (opn_v hc0 hi2) (by rw [Int.toNat_natCast]; exact hp1) hp2 hp3 (run_lt hok hi2 hp1) (by omega) (by omega)
    obtain ⟨zv, hzv⟩ : ∃ v, ckrV m i (planS p) (planS q2) = v := ⟨_, rfl⟩
    obtain ⟨⟨z2, z3, z1, z4⟩, zle⟩ := hgr (by omega) (by omega) hcr.1 hzv
    have zero0 : (0 : Int) = 0 := rfl
    simp only [b6, bx6, by6, f8a, f8b, decide_true, decide_false, Bool.not_true, Bool.not_false, gd_none, splice, coreS, Value.cells, Value.oneCell', Nat.reduceAdd, Nat.reduceSub, Nat.reduceMul, Nat.reduceLeDiff, Int.reduceEq, Nat.reduceEqDiff, H42Fs12]
    obtain ⟨bE, hbE⟩ : ∃ b, decide (E3 = 0) = b := ⟨_, rfl⟩
    cases bE
    case false =>
      have hE : ¬ E3 = 0 := of_decide_eq_false hbE
      simp only [b6, bx6, by6, hE, f8b, decide_true, decide_false, Bool.not_true, Bool.not_false, gd_none, splice, coreS, Value.cells, Value.oneCell', Nat.reduceAdd, Nat.reduceSub, Nat.reduceMul, Nat.reduceLeDiff, Int.reduceEq, Nat.reduceEqDiff, H42Fs12]
      try rw [hval]
      refine CallsH.mono (ckr35 m i (planS p) (planS q2) _ (hm.ext y6) (by rw [planS_size]; omega) (by rw [planS_size]; omega)) ?_
      rintro v h7 ⟨rfl, x7⟩
      have y7 := y6.trans x7
      have b7 := x7.get b6
      have bx7 := x7.get bx6
      have by7 := x7.get by6
      simp only [b7, bx7, by7, hcr.1, hzv, ratV, splice, coreS, Value.cells, Value.oneCell', Nat.reduceAdd, Nat.reduceSub, Nat.reduceMul, Nat.reduceLeDiff, Int.reduceEq, Nat.reduceEqDiff, H42Fs12]
      refine stK_abs push_new (by simp) fun h8 g8 u8 => ?_
      simp only [splice] at g8
      have x8 : Ext h7 h8 := u8.ext ((Ext.refl h7).push _) (Nat.le_refl _)
      have y8 := y7.trans x8
      have b8 := x8.get b7
      have bx8 := x8.get bx7
      have by8 := x8.get by7
      have bz8 := g8
      simp only [b8, bx8, by8, bz8, splice, coreS, Value.cells, Value.oneCell', Nat.reduceAdd, Nat.reduceSub, Nat.reduceMul, Nat.reduceLeDiff, Int.reduceEq, Nat.reduceEqDiff, H42Fs12]
      try rw [hval]
      refine CallsH.mono (fewest24 m i k _ (hm.ext y8)) ?_
      rintro v h9 ⟨rfl, x9⟩
      have y9 := y8.trans x9
      have b9 := x9.get b8
      have bx9 := x9.get bx8
      have by9 := x9.get by8
      have bz9 := x9.get bz8
      simp only [b9, bx9, by9, bz9, cE, cW, decide_true, decide_false, Bool.not_true, splice, coreS, Value.cells, Value.oneCell', Nat.reduceAdd, Nat.reduceSub, Nat.reduceMul, Nat.reduceLeDiff, Int.reduceEq, Nat.reduceEqDiff, H42Fs12]
      try rw [show Value.agg #[.int .i64 (X.1 : Int), .int .i64 (X.2 : Int)] = ratV X from rfl]
      refine CallsH.mono (small51 X _ s2 s3 s1 s4) ?_
      rintro v h10 ⟨rfl, x10⟩
      have y10 := y9.trans x10
      have b10 := x10.get b9
      have bx10 := x10.get bx9
      have by10 := x10.get by9
      have bz10 := x10.get bz9
      simp only [b10, bx10, by10, bz10, Bool.not_true, splice, coreS, Value.cells, Value.oneCell', Nat.reduceAdd, Nat.reduceSub, Nat.reduceMul, Nat.reduceLeDiff, Int.reduceEq, Nat.reduceEqDiff, H42Fs12]
      try rw [show Value.agg #[.int .i64 (zv.1 : Int), .int .i64 (zv.2 : Int)] = ratV zv from rfl]
      refine CallsH.mono (small51 zv _ z2 z3 z1 z4) ?_
      rintro v h11 ⟨rfl, x11⟩
      have y11 := y10.trans x11
      have b11 := x11.get b10
      have bx11 := x11.get bx10
      have by11 := x11.get by10
      have bz11 := x11.get bz10
      obtain ⟨A, hA, eA, lA⟩ := prod_atom zv.1 X.2 500 500 z1 s3
      obtain ⟨B, hB, eB, lB⟩ := prod_atom X.1 zv.2 500 500 s1 z3
      obtain ⟨C, hC, eC, lC⟩ := prod_atom wt X.2 960 500 (by omega) s3
      obtain ⟨D, hD, eD, lD⟩ := prod_atom k X.1 30 500 hk2 s1
      obtain ⟨F, hF, eF, lF⟩ := prod_atom m.casts.length X.1 16 500 h16.2 s1
      have eDF : ((k : Int) - (m.casts.length : Int)) * (X.1 : Int) = (D : Int) - F := by rw [Int.sub_mul, eD, eF]
      have q1 : ¬ ((A : Int) < B) := by rw [hA, hB] at zle; omega
      have q2 : ¬ ((C : Int) < (D : Int) - F) := by
        rw [hC, Nat.mul_comm X.1 k, hD, hnn, Nat.mul_comm X.1, hF] at hrp
        omega
      simp only [b11, bx11, by11, bz11, eA, eB, eC, eDF, q1, q2, decide_true, decide_false, Bool.not_true, gd_none, splice, coreS, Value.cells, Value.oneCell', Nat.reduceAdd, Nat.reduceSub, Nat.reduceMul, Nat.reduceLeDiff, Int.reduceEq, Nat.reduceEqDiff, H42Fs12]
      repeat (refine And.intro (by first | omega | (rw [inK_i64]; omega) | rfl | assumption | (decide)) ?_)
      try simp only [b11, bx11, by11, bz11, eA, eB, eC, eDF, q1, q2, hE, decide_true, decide_false, Bool.not_true, Bool.not_false, gd_none, splice, coreS, Value.cells, Value.oneCell', Nat.reduceAdd, Nat.reduceSub, Nat.reduceMul, Nat.reduceLeDiff, Int.reduceEq, Nat.reduceEqDiff, H42Fs12]
      refine CallsH.mono (works y11) ?_
      rintro v hW ⟨rfl, xW⟩
      simp only [coreS, Value.cells, Value.oneCell', Nat.reduceAdd, Nat.reduceSub, Nat.reduceMul, Nat.reduceLeDiff, Int.reduceEq, Nat.reduceEqDiff, H42Fs12]
      exact xW
    case true =>
      have hE : E3 = 0 := of_decide_eq_true hbE
      simp only [b6, bx6, by6, hE, f8b, decide_true, decide_false, Bool.not_true, Bool.not_false, gd_none, splice, coreS, Value.cells, Value.oneCell', Nat.reduceAdd, Nat.reduceSub, Nat.reduceMul, Nat.reduceLeDiff, Int.reduceEq, Nat.reduceEqDiff, H42Fs12]
      try rw [hval]
      refine CallsH.mono (ckr35 m i (planS p) (planS q2) _ (hm.ext y6) (by rw [planS_size]; omega) (by rw [planS_size]; omega)) ?_
      rintro v h7 ⟨rfl, x7⟩
      have y7 := y6.trans x7
      have b7 := x7.get b6
      have bx7 := x7.get bx6
      have by7 := x7.get by6
      simp only [b7, bx7, by7, hcr.1, hzv, ratV, splice, coreS, Value.cells, Value.oneCell', Nat.reduceAdd, Nat.reduceSub, Nat.reduceMul, Nat.reduceLeDiff, Int.reduceEq, Nat.reduceEqDiff, H42Fs12]
      refine stK_abs push_new (by simp) fun h8 g8 u8 => ?_
      simp only [splice] at g8
      have x8 : Ext h7 h8 := u8.ext ((Ext.refl h7).push _) (Nat.le_refl _)
      have y8 := y7.trans x8
      have b8 := x8.get b7
      have bx8 := x8.get bx7
      have by8 := x8.get by7
      have bz8 := g8
      simp only [b8, bx8, by8, bz8, splice, coreS, Value.cells, Value.oneCell', Nat.reduceAdd, Nat.reduceSub, Nat.reduceMul, Nat.reduceLeDiff, Int.reduceEq, Nat.reduceEqDiff, H42Fs12]
      try rw [hval]
      refine CallsH.mono (fewest24 m i k _ (hm.ext y8)) ?_
      rintro v h9 ⟨rfl, x9⟩
      have y9 := y8.trans x9
      have b9 := x9.get b8
      have bx9 := x9.get bx8
      have by9 := x9.get by8
      have bz9 := x9.get bz8
      simp only [b9, bx9, by9, bz9, cE, cW, decide_true, decide_false, Bool.not_true, splice, coreS, Value.cells, Value.oneCell', Nat.reduceAdd, Nat.reduceSub, Nat.reduceMul, Nat.reduceLeDiff, Int.reduceEq, Nat.reduceEqDiff, H42Fs12]
      try rw [show Value.agg #[.int .i64 (X.1 : Int), .int .i64 (X.2 : Int)] = ratV X from rfl]
      refine CallsH.mono (small51 X _ s2 s3 s1 s4) ?_
      rintro v h10 ⟨rfl, x10⟩
      have y10 := y9.trans x10
      have b10 := x10.get b9
      have bx10 := x10.get bx9
      have by10 := x10.get by9
      have bz10 := x10.get bz9
      simp only [b10, bx10, by10, bz10, Bool.not_true, splice, coreS, Value.cells, Value.oneCell', Nat.reduceAdd, Nat.reduceSub, Nat.reduceMul, Nat.reduceLeDiff, Int.reduceEq, Nat.reduceEqDiff, H42Fs12]
      try rw [show Value.agg #[.int .i64 (zv.1 : Int), .int .i64 (zv.2 : Int)] = ratV zv from rfl]
      refine CallsH.mono (small51 zv _ z2 z3 z1 z4) ?_
      rintro v h11 ⟨rfl, x11⟩
      have y11 := y10.trans x11
      have b11 := x11.get b10
      have bx11 := x11.get bx10
      have by11 := x11.get by10
      have bz11 := x11.get bz10
      obtain ⟨A, hA, eA, lA⟩ := prod_atom zv.1 X.2 500 500 z1 s3
      obtain ⟨B, hB, eB, lB⟩ := prod_atom X.1 zv.2 500 500 s1 z3
      obtain ⟨C, hC, eC, lC⟩ := prod_atom wt X.2 960 500 (by omega) s3
      obtain ⟨D, hD, eD, lD⟩ := prod_atom k X.1 30 500 hk2 s1
      obtain ⟨F, hF, eF, lF⟩ := prod_atom m.casts.length X.1 16 500 h16.2 s1
      have eDF : ((k : Int) - (m.casts.length : Int)) * (X.1 : Int) = (D : Int) - F := by rw [Int.sub_mul, eD, eF]
      have q1 : ¬ ((A : Int) < B) := by rw [hA, hB] at zle; omega
      have q2 : ¬ ((C : Int) < (D : Int) - F) := by
        rw [hC, Nat.mul_comm X.1 k, hD, hnn, Nat.mul_comm X.1, hF] at hrp
        omega
      simp only [b11, bx11, by11, bz11, eA, eB, eC, eDF, q1, q2, decide_true, decide_false, Bool.not_true, gd_none, splice, coreS, Value.cells, Value.oneCell', Nat.reduceAdd, Nat.reduceSub, Nat.reduceMul, Nat.reduceLeDiff, Int.reduceEq, Nat.reduceEqDiff, H42Fs12]
      repeat (refine And.intro (by first | omega | (rw [inK_i64]; omega) | rfl | assumption | (decide)) ?_)
      try simp only [b11, bx11, by11, bz11, eA, eB, eC, eDF, q1, q2, hE, decide_true, decide_false, Bool.not_true, Bool.not_false, gd_none, splice, coreS, Value.cells, Value.oneCell', Nat.reduceAdd, Nat.reduceSub, Nat.reduceMul, Nat.reduceLeDiff, Int.reduceEq, Nat.reduceEqDiff, H42Fs12]
      obtain ⟨⟨y2_, y3_, y1_, y4_⟩, yle⟩ := hgr hP5 (by omega) (hE3.trans hE) hyv
      try rw [show Value.agg #[.int .i64 (yv.1 : Int), .int .i64 (yv.2 : Int)] = ratV yv from rfl]
      refine CallsH.mono (small51 yv _ y2_ y3_ y1_ y4_) ?_
      rintro v h12 ⟨rfl, x12⟩
      have y12 := y11.trans x12
      have b12 := x12.get b11
      have bx12 := x12.get bx11
      have by12 := x12.get by11
      have bz12 := x12.get bz11
      obtain ⟨A2, hA2, eA2, lA2⟩ := prod_atom yv.1 X.2 500 500 y1_ s3
      obtain ⟨B2, hB2, eB2, lB2⟩ := prod_atom X.1 yv.2 500 500 s1 y3_
      have q3 : (B2 : Int) ≤ A2 := by rw [hA2, hB2] at yle; omega
      simp only [b12, bx12, by12, bz12, eA2, eB2, q3, decide_true, decide_false, Bool.not_true, gd_none, splice, coreS, Value.cells, Value.oneCell', Nat.reduceAdd, Nat.reduceSub, Nat.reduceMul, Nat.reduceLeDiff, Int.reduceEq, Nat.reduceEqDiff, H42Fs12]
      repeat (refine And.intro (by first | omega | (rw [inK_i64]; omega) | rfl | assumption | (decide)) ?_)
      try simp only [b12, bx12, by12, bz12, eA2, eB2, q3, decide_true, decide_false, Bool.not_true, Bool.not_false, gd_none, splice, coreS, Value.cells, Value.oneCell', Nat.reduceAdd, Nat.reduceSub, Nat.reduceMul, Nat.reduceLeDiff, Int.reduceEq, Nat.reduceEqDiff, H42Fs12]
      refine CallsH.mono (works y12) ?_
      rintro v hW ⟨rfl, xW⟩
      simp only [coreS, Value.cells, Value.oneCell', Nat.reduceAdd, Nat.reduceSub, Nat.reduceMul, Nat.reduceLeDiff, Int.reduceEq, Nat.reduceEqDiff, H42Fs12]
      exact xW
end Go.Proofs.YtafemfjhflfdeaaDoor
