/- HeatBegun returns true. -/
import Derived.Test.YtafemfjhflfdeaaDoorPB13
namespace Go.Proofs.YtafemfjhflfdeaaDoor
open Go Go.Proofs Go.Eng Go.Run Tab
set_option maxRecDepth 100000
set_option linter.unusedSimpArgs false
set_option linter.unusedVariables false
set_option linter.defProp false
set_option maxHeartbeats 8000000
set_option linter.defProp false
def H45Fs15 := (And.intro (And.intro (And.intro @agg22 (And.intro @agg24 @fo24_0)) (And.intro @inf22 (And.intro @inf24 @sz22))) (And.intro (And.intro @sz24 (And.intro @Tryd.underlying3 @Tryd.underlying5)) (And.intro @Tryd.underlying9 (And.intro @Tryd.underlying22 @Tryd.underlying63))))
theorem planS_take (p : List Bool) (k : Nat) : (planS p).extract 0 k = planS (p.take k) := by
  apply ByteArray.ext
  apply Array.toList_inj.1
  simp [planS, ByteArray.data_extract, Array.toList_extract]
theorem planS_drop (p : List Bool) (k : Nat) : (planS p).extract k p.length = planS (p.drop k) := by
  apply ByteArray.ext
  apply Array.toList_inj.1
  simp [planS, ByteArray.data_extract, Array.toList_extract]
  exact List.take_of_length_le (by simp)
theorem begun15 (m : MV) (w : Int) (a : Option Addr) (n c : Nat) (xs : List Int) (q : Int) (h : Eng.Heap) (hc : IntsV h m.a m.casts.length m.casts) (hw : IntsV h m.b m.waits.length m.waits) (hwb : 0 ≤ w ∧ w ≤ 255) (hnb : n = xs.length ∧ n ≤ c) (hrb : Row h a (bytesV xs)) (hmb : n ≤ 9223372036854775807) (hxb : ∀ x ∈ xs, 0 ≤ x ∧ x ≤ 255) (hqb : 0 ≤ q ∧ q ≤ 255) :
    CallsH Tryd.prog 15 #[m.val, .int .u8 w, .slice a n c, .int .u8 q] h (fun v h' => v = .bool true ∧ Ext h h') := by
  (refine CallsH_of_exec Tryd.func15 rfl bod15 ?_; simp only [Tryd.ntmps15, Tryd.results15, coreS, stK_some, splice, Value.cells, Value.oneCell', Nat.reduceAdd, Nat.reduceSub, Nat.reduceMul, Nat.reduceLeDiff, Int.reduceEq, Nat.reduceEqDiff, H45Fs15])
  have hb := push_new (h := h) (o := .cells #[.slice m.a m.casts.length m.ca, .slice m.b m.waits.length m.cb, .int .i64 m.lo, .int .i64 m.hi] 24)
  have y0 : Ext h (h.push (.cells #[.slice m.a m.casts.length m.ca, .slice m.b m.waits.length m.cb, .int .i64 m.lo, .int .i64 m.hi] 24)) := (Ext.refl h).push _
  have hval : Value.agg #[.slice m.a m.casts.length m.ca, .slice m.b m.waits.length m.cb, .int .i64 m.lo, .int .i64 m.hi] = m.val := rfl
  have works : ∀ {h2 : Eng.Heap}, Ext h h2 → CallsH Tryd.prog 19 #[] h2 (fun v h' => v = .bool true ∧ Ext h h') := fun x => CallsH.mono (works19 _) fun v h' q => ⟨q.1, x.trans q.2⟩
  have b0 := hb
  refine CallsH.mono (fine47 m _ (hc.ext y0) (hw.ext y0)) ?_
  rintro v h1 ⟨rfl, x1⟩
  have y1 := y0.trans x1
  have b1 := x1.get b0
  by_cases hf : okM m = true
  case neg =>
    have hf2 : okM m = false := by simpa using hf
    simp only [hf2, Bool.not_false, gd_none, coreS, Value.cells, Value.oneCell', Nat.reduceAdd, Nat.reduceSub, Nat.reduceMul, Nat.reduceLeDiff, Int.reduceEq, Nat.reduceEqDiff, H45Fs15]
    refine CallsH.mono (works y1) ?_
    rintro v hW ⟨rfl, xW⟩
    simp only [coreS, Value.cells, Value.oneCell', Nat.reduceAdd, Nat.reduceSub, Nat.reduceMul, Nat.reduceLeDiff, Int.reduceEq, Nat.reduceEqDiff, H45Fs15]
    exact xW
  obtain ⟨hg, hc0⟩ := okM_iff.1 hf
  have hm : m.ok h := ⟨hc, hw, by omega, by omega⟩
  have gd := good_of hc0
  have h16 := (chk_pos hc0).1
  have hok := gd.ok
  have hnn : m.ov.n = m.casts.length := rfl
  by_cases hl : 100 < n
  case pos =>
    have hl2 : (100 : Int) < n := by omega
    simp only [hf, hl2, decide_true, Bool.not_true, gd_none, coreS, Value.cells, Value.oneCell', Nat.reduceAdd, Nat.reduceSub, Nat.reduceMul, Nat.reduceLeDiff, Int.reduceEq, Nat.reduceEqDiff, H45Fs15]
    refine CallsH.mono (works y1) ?_
    rintro v hW ⟨rfl, xW⟩
    simp only [coreS, Value.cells, Value.oneCell', Nat.reduceAdd, Nat.reduceSub, Nat.reduceMul, Nat.reduceLeDiff, Int.reduceEq, Nat.reduceEqDiff, H45Fs15]
    exact xW
  have hl2 : ¬ (100 : Int) < n := by omega
  have hnb1 := hnb.1
  obtain ⟨i, hi, ei⟩ := tmod_idx (w := w) (c := (m.casts.length : Int)) hwb.1 (by omega)
  have hi2 : i < m.casts.length := by omega
  simp only [b1, hf, hl2, ei, decide_false, Bool.not_true, gd_none, splice, coreS, Value.cells, Value.oneCell', Nat.reduceAdd, Nat.reduceSub, Nat.reduceMul, Nat.reduceLeDiff, Int.reduceEq, Nat.reduceEqDiff, H45Fs15]
  repeat (refine And.intro (by first | omega | (rw [inK_i64]; omega) | rfl | assumption | (decide)) ?_)
  try simp only [b1, ei, splice, coreS, Value.cells, Value.oneCell', Nat.reduceAdd, Nat.reduceSub, Nat.reduceMul, Nat.reduceLeDiff, Int.reduceEq, Nat.reduceEqDiff, H45Fs15]
  refine CallsH.mono (letters50 a n c xs _ hnb1 (hrb.ext y1) hxb (by omega)) ?_
  rintro v hS ⟨rfl, rfl⟩
  have hol : (oddL xs).length ≤ 100 := by rw [oddL_length]; omega
  generalize oddL xs = L at hol ⊢
  have hsz : (planS L).size = L.length := planS_size L
  obtain ⟨k, hk, ek⟩ := tmod_idx (w := q) (c := (L.length : Int) + 1) hqb.1 (by omega)
  have hk2 : k ≤ L.length := by omega
  have hL5 : L.length ≤ 500 := by omega
  have t5 : (L.take k).length ≤ 500 := by rw [List.length_take]; omega
  have d5 : (L.drop k).length ≤ 500 := by rw [List.length_drop]; omega
  have szL : (planS L).size ≤ 9223372036854775807 := by omega
  have szT : (planS (L.take k)).size ≤ 9223372036854775807 := by rw [planS_size]; omega
  have szD : (planS (L.drop k)).size ≤ 9223372036854775807 := by rw [planS_size]; omega
  have eT : (planS L).extract 0 k = planS (L.take k) := planS_take L k
  have eD : (planS L).extract k L.length = planS (L.drop k) := planS_drop L k
  have htd : L.take k ++ L.drop k = L := List.take_append_drop k L
  have hcs : OV.casts L = OV.casts (L.take k) + OV.casts (L.drop k) := by rw [← OV.casts_append, htd]
  simp only [b1, hsz, ek, splice, coreS, Value.cells, Value.oneCell', Nat.reduceAdd, Nat.reduceSub, Nat.reduceMul, Nat.reduceLeDiff, Int.reduceEq, Nat.reduceEqDiff, H45Fs15]
  repeat (refine And.intro (by first | omega | (rw [inK_i64]; omega) | rfl | assumption | (decide)) ?_)
  try simp only [b1, hsz, ek, splice, coreS, Value.cells, Value.oneCell', Nat.reduceAdd, Nat.reduceSub, Nat.reduceMul, Nat.reduceLeDiff, Int.reduceEq, Nat.reduceEqDiff, H45Fs15]
  try rw [hval]
  refine CallsH.mono (run20 m i (planS L) _ (hm.ext y1) szL) ?_
  rintro v h2 ⟨rfl, x2⟩
  have y2 := y1.trans x2
  have b2 := x2.get b1
  simp only [b2, splice, coreS, Value.cells, Value.oneCell', Nat.reduceAdd, Nat.reduceSub, Nat.reduceMul, Nat.reduceLeDiff, Int.reduceEq, Nat.reduceEqDiff, H45Fs15]
  refine WP_cut [15, 16, 17, 52, 53, 54, 55, 56, 57, 58, 59, 60, 61] (fun g h' => g 15 = .int .i64 (runA m i (planS (L.take k))) ∧ g 16 = .int .i64 (runK m i (planS (L.take k))) ∧ g 17 = .int .i64 (runE m i (planS (L.take k))) ∧ Ext h2 h') ?_ ?_
  · refine WP_tree (by kernel_rfl) sta_ext (.quiet 0 (.quiet 1 (.quiet 2 (.quiet 3 (.quiet 4 (.quiet 5 (.quiet 6 (.quiet 7 (.quiet 8 (.quiet 9 (.quiet 10 (.quiet 11 (.quiet 12 (.fin)))))))))))))) (by kernel_rfl) rfl (by kernel_rfl) ?_
    simp only [b2, hsz, Int.toNat_natCast, Int.toNat_zero, splice, coreS, Value.cells, Value.oneCell', Nat.reduceAdd, Nat.reduceSub, Nat.reduceMul, Nat.reduceLeDiff, Int.reduceEq, Nat.reduceEqDiff, drawS, treeS, H45Fs15]
    repeat (refine And.intro (by first | omega | (rw [inK_i64]; omega) | rfl | assumption | (decide)) ?_)
    try simp only [b2, hsz, Int.toNat_natCast, Int.toNat_zero, splice, coreS, Value.cells, Value.oneCell', Nat.reduceAdd, Nat.reduceSub, Nat.reduceMul, Nat.reduceLeDiff, Int.reduceEq, Nat.reduceEqDiff, drawS, treeS, H45Fs15]
    try rw [hval]
    try rw [eT]
    refine cQ_ext _ (fun h' x' => CallsH.mono (run20 m i (planS (L.take k)) h' (hm.ext (y2.trans x')) szT) fun v h'' q => ⟨q.1, q.2⟩) ?_
    simp only [coreS, Value.cells, Value.oneCell', Nat.reduceAdd, Nat.reduceSub, Nat.reduceMul, Nat.reduceLeDiff, Int.reduceEq, Nat.reduceEqDiff, drawS, treeS, H45Fs15]
    refine execT_fin fun hD xD => ?_
    simp only [coreS, Value.cells, Value.oneCell', Nat.reduceAdd, Nat.reduceSub, Nat.reduceMul, Nat.reduceLeDiff, Int.reduceEq, Nat.reduceEqDiff, H45Fs15]
    exact midK_mk (by kernel_rfl) ⟨rfl, rfl, rfl, xD⟩
  rintro f7 h3 ⟨f7a, f7b, f7c, x3⟩
  have y3 := y2.trans x3
  have b3 := x3.get b2
  cases h1 : m.ov.run (i, i) (L.take k) with
  | none =>
    have hw0 : m.ov.run (i, i) L = none := by rw [← htd, OV.run_append, h1]; rfl
    have r1 := (run_n hc0 hi2 t5 h1).1
    have r2 := (run_n hc0 hi2 hL5 hw0).1
    simp only [b3, f7a, f7b, f7c, r1, r2, decide_true, decide_false, Bool.not_true, Bool.not_false, splice, coreS, Value.cells, Value.oneCell', Nat.reduceAdd, Nat.reduceSub, Nat.reduceMul, Nat.reduceLeDiff, Int.reduceEq, Nat.reduceEqDiff, H45Fs15]
    refine CallsH.mono (works y3) ?_
    rintro v hW ⟨rfl, xW⟩
    simp only [coreS, Value.cells, Value.oneCell', Nat.reduceAdd, Nat.reduceSub, Nat.reduceMul, Nat.reduceLeDiff, Int.reduceEq, Nat.reduceEqDiff, H45Fs15]
    exact xW
  | some t =>
    have ht := OV.run_same hok h1
    obtain ⟨v, v2⟩ := t
    obtain rfl : v2 = v := congrArg Prod.snd ht
    have hv2 : v2 < m.casts.length := run_lt hok hi2 h1
    obtain ⟨r1, r2, r3⟩ := run_s hc0 hi2 t5 h1
    have hwh : m.ov.run (i, i) L = m.ov.run (v2, v2) (L.drop k) := by
      rw [show m.ov.run (i, i) L = m.ov.run (i, i) (L.take k ++ L.drop k) by rw [htd], OV.run_append, h1]; rfl
    rw [r1] at f7c
    rw [r2] at f7a
    rw [r3] at f7b
    simp only [b3, f7a, f7b, f7c, decide_true, decide_false, Bool.not_true, Bool.not_false, splice, coreS, Value.cells, Value.oneCell', Nat.reduceAdd, Nat.reduceSub, Nat.reduceMul, Nat.reduceLeDiff, Int.reduceEq, Nat.reduceEqDiff, H45Fs15]
    refine WP_cut [18, 19, 20, 73, 74, 75, 76, 77, 78, 79, 80, 81, 82] (fun g h' => g 18 = .int .i64 (runA m v2 (planS (L.drop k))) ∧ g 19 = .int .i64 (runK m v2 (planS (L.drop k))) ∧ g 20 = .int .i64 (runE m v2 (planS (L.drop k))) ∧ Ext h3 h') ?_ ?_
    · refine WP_tree (by kernel_rfl) sta_ext (.quiet 0 (.quiet 1 (.quiet 2 (.quiet 3 (.quiet 4 (.quiet 5 (.quiet 6 (.quiet 7 (.quiet 8 (.quiet 9 (.quiet 10 (.quiet 11 (.quiet 12 (.fin)))))))))))))) (by kernel_rfl) rfl (by kernel_rfl) ?_
      simp only [b3, hsz, Int.toNat_natCast, Int.toNat_zero, f7a, f7b, f7c, splice, coreS, Value.cells, Value.oneCell', Nat.reduceAdd, Nat.reduceSub, Nat.reduceMul, Nat.reduceLeDiff, Int.reduceEq, Nat.reduceEqDiff, drawS, treeS, H45Fs15]
      repeat (refine And.intro (by first | omega | (rw [inK_i64]; omega) | rfl | assumption | (decide)) ?_)
      try simp only [b3, hsz, Int.toNat_natCast, Int.toNat_zero, splice, coreS, Value.cells, Value.oneCell', Nat.reduceAdd, Nat.reduceSub, Nat.reduceMul, Nat.reduceLeDiff, Int.reduceEq, Nat.reduceEqDiff, drawS, treeS, H45Fs15]
      try rw [hval]
      try rw [eD]
      refine cQ_ext _ (fun h' x' => CallsH.mono (run20 m v2 (planS (L.drop k)) h' (hm.ext (y3.trans x')) szD) fun v h'' q => ⟨q.1, q.2⟩) ?_
      simp only [coreS, Value.cells, Value.oneCell', Nat.reduceAdd, Nat.reduceSub, Nat.reduceMul, Nat.reduceLeDiff, Int.reduceEq, Nat.reduceEqDiff, drawS, treeS, H45Fs15]
      refine execT_fin fun hD xD => ?_
      simp only [coreS, Value.cells, Value.oneCell', Nat.reduceAdd, Nat.reduceSub, Nat.reduceMul, Nat.reduceLeDiff, Int.reduceEq, Nat.reduceEqDiff, H45Fs15]
      exact midK_mk (by kernel_rfl) ⟨rfl, rfl, rfl, xD⟩
    rintro f10 h4 ⟨f10a, f10b, f10c, x4⟩
    have y4 := y3.trans x4
    have b4 := x4.get b3
    cases h2 : m.ov.run (v2, v2) (L.drop k) with
    | none =>
      obtain ⟨s1, s2, s3⟩ := run_n hc0 hv2 d5 h2
      obtain ⟨w1, w2, w3⟩ := run_n hc0 hi2 hL5 (by rw [hwh, h2])
      simp only [b4, f7a, f7b, f7c, f10a, f10b, f10c, s1, s2, s3, w1, w2, w3, decide_true, decide_false, Bool.not_true, Bool.not_false, gd_none, splice, coreS, Value.cells, Value.oneCell', Nat.reduceAdd, Nat.reduceSub, Nat.reduceMul, Nat.reduceLeDiff, Int.reduceEq, Nat.reduceEqDiff, H45Fs15]
      refine CallsH.mono (works y4) ?_
      rintro v hW ⟨rfl, xW⟩
      simp only [coreS, Value.cells, Value.oneCell', Nat.reduceAdd, Nat.reduceSub, Nat.reduceMul, Nat.reduceLeDiff, Int.reduceEq, Nat.reduceEqDiff, H45Fs15]
      exact xW
    | some t =>
      have ht2 := OV.run_same hok h2
      obtain ⟨z, z2⟩ := t
      obtain rfl : z2 = z := congrArg Prod.snd ht2
      obtain ⟨s1, s2, s3⟩ := run_s hc0 hv2 d5 h2
      obtain ⟨w1, w2, w3⟩ := run_s hc0 hi2 hL5 (by rw [hwh, h2])
      have hca := OV.casts_le L
      have q1 : (OV.casts L : Int) = (OV.casts (L.take k) : Int) + (OV.casts (L.drop k) : Int) := by omega
      have q2 : (OV.casts L : Int) ≤ 1000 := by omega
      simp only [b4, f7a, f7b, f7c, f10a, f10b, f10c, s1, s2, s3, w1, w2, w3, q1, decide_true, decide_false, Bool.not_true, Bool.not_false, gd_none, splice, coreS, Value.cells, Value.oneCell', Nat.reduceAdd, Nat.reduceSub, Nat.reduceMul, Nat.reduceLeDiff, Int.reduceEq, Nat.reduceEqDiff, H45Fs15]
      repeat (refine And.intro (by first | omega | (rw [inK_i64]; omega) | rfl | assumption | (decide)) ?_)
      try simp only [b4, f7a, f7b, f7c, f10a, f10b, f10c, s1, s2, s3, w1, w2, w3, q1, decide_true, decide_false, Bool.not_true, Bool.not_false, gd_none, splice, coreS, Value.cells, Value.oneCell', Nat.reduceAdd, Nat.reduceSub, Nat.reduceMul, Nat.reduceLeDiff, Int.reduceEq, Nat.reduceEqDiff, H45Fs15]
      refine CallsH.mono (works y4) ?_
      rintro v hW ⟨rfl, xW⟩
      simp only [coreS, Value.cells, Value.oneCell', Nat.reduceAdd, Nat.reduceSub, Nat.reduceMul, Nat.reduceLeDiff, Int.reduceEq, Nat.reduceEqDiff, H45Fs15]
      exact xW
end Go.Proofs.YtafemfjhflfdeaaDoor
