/- Texts joined by pack.py: lemmas for YtafemfjhflfdeaaDoorPlans. No condition. -/
import Derived.Test.YtafemfjhflfdeaaDoorPB8
import Derived.RangeFuncIn
import Derived.LoopNIn
import Derived.ProofKit
set_option linter.unusedSimpArgs false
set_option linter.unusedVariables false
set_option linter.defProp false
section
namespace Go.Proofs.YtafemfjhflfdeaaDoor
open Go Go.Proofs Go.Eng Go.Run Tab
set_option maxRecDepth 100000
set_option linter.unusedSimpArgs false
set_option linter.unusedVariables false
set_option maxHeartbeats 4000000
set_option linter.defProp false
def H13Fs25 := (And.intro (And.intro (And.intro @agg24 @agg3) (And.intro @by3 @inf24)) (And.intro (And.intro @inf3 @sz24) (And.intro @sz3 @Tryd.underlying22)))
def H13Fs64 := (And.intro (And.intro (And.intro @agg24 @agg3) (And.intro @by3 @inf24)) (And.intro (And.intro @inf3 @sz24) (And.intro @sz3 @Tryd.underlying22)))
theorem enc_neg (o : Option Nat) : enc o < 0 ↔ o.isSome = false := by
  cases o with
  | none => simp [enc]
  | some x => simp [enc]
theorem ce64 (m : MV) (x k : Int) (h : Eng.Heap) (hm : m.ok h) :
    CallsH Tryd.prog 64 #[m.val, .int .i64 x, .int .i64 k] h (fun v h' => v = .int .i64 (ceE m x k) ∧ Ext h h') := by
  have hb := push_new (h := h) (o := .cells #[.slice m.a m.casts.length m.ca, .slice m.b m.waits.length m.cb, .int .i64 m.lo, .int .i64 m.hi] 24)
  have x0 : Ext h (h.push (.cells #[.slice m.a m.casts.length m.ca, .slice m.b m.waits.length m.cb, .int .i64 m.lo, .int .i64 m.hi] 24)) := (Ext.refl h).push _
  have hval : Value.agg #[.slice m.a m.casts.length m.ca, .slice m.b m.waits.length m.cb, .int .i64 m.lo, .int .i64 m.hi] = m.val := rfl
  (refine CallsH_of_exec Tryd.func64 rfl bod64 ?_; simp only [Tryd.ntmps64, Tryd.results64, coreS, stK_some, splice, Value.cells, Value.oneCell', Nat.reduceAdd, Nat.reduceSub, Nat.reduceMul, Nat.reduceLeDiff, Int.reduceEq, Nat.reduceEqDiff, H13Fs64])
  refine CallsH.mono (isFrom60 m x _ (hm.ext x0)) ?_
  rintro v h1 ⟨rfl, x1⟩
  have y1 := x0.trans x1
  have b1 := x1.get hb
  by_cases e0 : opn m [x] = 0
  · obtain ⟨i, rfl, hi, h16, gd⟩ := opn_in e0
    have eE : ceE m i k = fromE m (i, i) k := by rw [ceE, if_neg (by simpa using e0)]; rfl
    by_cases hk : 0 ≤ k ∧ k ≤ 30
    · obtain ⟨j, rfl⟩ : ∃ j : Nat, k = j := ⟨k.toNat, by omega⟩
      have k1 : ¬ (j : Int) < 0 := by omega
      have k2 : ¬ (30 : Int) < j := by omega
      simp only [e0, k1, k2, b1, gd_none, decide_true, decide_false, Bool.not_true, splice, coreS, Value.cells, Value.oneCell', Nat.reduceAdd, Nat.reduceSub, Nat.reduceMul, Nat.reduceLeDiff, Int.reduceEq, Nat.reduceEqDiff, H13Fs64]
      rw [hval]
      refine CallsH.mono (waits65 m gd (by omega) h16 j (by omega) h1 (hm.ext y1)) ?_
      rintro v h2 ⟨bo, rfl, hbo, x2⟩
      have y2 := y1.trans x2
      simp only [hbo, vec_at m j m.casts.length i hi, Int.toNat_natCast, coreS, Value.cells, Value.oneCell', Nat.reduceAdd, Nat.reduceSub, Nat.reduceMul, Nat.reduceLeDiff, Int.reduceEq, Nat.reduceEqDiff, H13Fs64]
      refine ⟨⟨by omega, by omega⟩, rfl, ?_⟩
      have e2 : fromE m (i, i) j = if (m.ov.lw j (i, i)).isSome then 0 else 22 := by rw [fromE, if_neg (by simpa using hk)]; rfl
      rw [eE, e2]
      by_cases hl : enc (m.ov.lw j (i, i)) < 0
      · rw [(enc_neg _).1 hl]
        simp only [hl, decide_true, coreS, Value.cells, Value.oneCell', Nat.reduceAdd, Nat.reduceSub, Nat.reduceMul, Nat.reduceLeDiff, Int.reduceEq, Nat.reduceEqDiff, H13Fs64]
        exact y2
      · have : (m.ov.lw j (i, i)).isSome = true := by
          cases hh : (m.ov.lw j (i, i)).isSome with
          | true => rfl
          | false => exact absurd ((enc_neg _).2 hh) hl
        rw [this]
        simp only [hl, decide_false, coreS, Value.cells, Value.oneCell', Nat.reduceAdd, Nat.reduceSub, Nat.reduceMul, Nat.reduceLeDiff, Int.reduceEq, Nat.reduceEqDiff, H13Fs64]
        exact y2
    · have e2 : ceE m i k = 2 := by rw [eE, fromE, if_pos hk]
      rw [e2]
      by_cases k1 : k < 0
      · simp only [e0, k1, gd_none, decide_true, decide_false, Bool.not_true, coreS, Value.cells, Value.oneCell', Nat.reduceAdd, Nat.reduceSub, Nat.reduceMul, Nat.reduceLeDiff, Int.reduceEq, Nat.reduceEqDiff, H13Fs64]
        exact y1
      · have k2 : 30 < k := by omega
        simp only [e0, k1, k2, gd_none, decide_true, decide_false, Bool.not_true, coreS, Value.cells, Value.oneCell', Nat.reduceAdd, Nat.reduceSub, Nat.reduceMul, Nat.reduceLeDiff, Int.reduceEq, Nat.reduceEqDiff, H13Fs64]
        exact y1
  · have e1 : ceE m x k = opn m [x] := by rw [ceE, if_pos e0]
    rw [e1]
    simp only [e0, b1, decide_false, Bool.not_false, coreS, Value.cells, Value.oneCell', Nat.reduceAdd, Nat.reduceSub, Nat.reduceMul, Nat.reduceLeDiff, Int.reduceEq, Nat.reduceEqDiff, H13Fs64]
    rw [hval]
    refine CallsH.mono (isFrom60 m x h1 (hm.ext y1)) ?_
    rintro v h2 ⟨rfl, x2⟩
    simp only [coreS, Value.cells, Value.oneCell', Nat.reduceAdd, Nat.reduceSub, Nat.reduceMul, Nat.reduceLeDiff, Int.reduceEq, Nat.reduceEqDiff, H13Fs64]
    exact y1.trans x2
theorem fewest25 (m : MV) (x k : Int) (h : Eng.Heap) (hm : m.ok h) :
    CallsH Tryd.prog 25 #[m.val, .int .i64 x, .int .i64 k] h (fun v h' => v = .tuple #[.int .i64 (ceW m x k), .int .i64 (ceE m x k)] ∧ Ext h h') := by
  have hb := push_new (h := h) (o := .cells #[.slice m.a m.casts.length m.ca, .slice m.b m.waits.length m.cb, .int .i64 m.lo, .int .i64 m.hi] 24)
  have x0 : Ext h (h.push (.cells #[.slice m.a m.casts.length m.ca, .slice m.b m.waits.length m.cb, .int .i64 m.lo, .int .i64 m.hi] 24)) := (Ext.refl h).push _
  have hval : Value.agg #[.slice m.a m.casts.length m.ca, .slice m.b m.waits.length m.cb, .int .i64 m.lo, .int .i64 m.hi] = m.val := rfl
  (refine CallsH_of_exec Tryd.func25 rfl bod25 ?_; simp only [Tryd.ntmps25, Tryd.results25, coreS, stK_some, splice, Value.cells, Value.oneCell', Nat.reduceAdd, Nat.reduceSub, Nat.reduceMul, Nat.reduceLeDiff, Int.reduceEq, Nat.reduceEqDiff, H13Fs25])
  refine CallsH.mono (ce64 m x k _ (hm.ext x0)) ?_
  rintro v h1 ⟨rfl, x1⟩
  have y1 := x0.trans x1
  have b1 := x1.get hb
  by_cases e0 : ceE m x k = 0
  · obtain ⟨i, j, y, rfl, rfl, hj, hi, h16, gd, hy⟩ := ceE_zero e0
    simp only [e0, b1, decide_true, Bool.not_true, splice, coreS, Value.cells, Value.oneCell', Nat.reduceAdd, Nat.reduceSub, Nat.reduceMul, Nat.reduceLeDiff, Int.reduceEq, Nat.reduceEqDiff, H13Fs25]
    rw [hval]
    refine CallsH.mono (waits65 m gd (by omega) h16 j (by omega) h1 (hm.ext y1)) ?_
    rintro v h2 ⟨bo, rfl, hbo, x2⟩
    have eW : ceW m i j = (y : Int) := by rw [ceW, if_pos e0]; simp only [Int.toNat_natCast, hy, Option.getD_some]
    simp only [hbo, vec_at m j m.casts.length i hi, hy, enc, Int.toNat_natCast, coreS, Value.cells, Value.oneCell', Nat.reduceAdd, Nat.reduceSub, Nat.reduceMul, Nat.reduceLeDiff, Int.reduceEq, Nat.reduceEqDiff, H13Fs25]
    refine ⟨⟨by omega, by omega⟩, rfl, ?_⟩
    rw [eW]
    exact ⟨rfl, y1.trans x2⟩
  · have eW : ceW m x k = 0 := by rw [ceW, if_neg e0]
    rw [eW]
    simp only [e0, b1, decide_false, Bool.not_false, coreS, Value.cells, Value.oneCell', Nat.reduceAdd, Nat.reduceSub, Nat.reduceMul, Nat.reduceLeDiff, Int.reduceEq, Nat.reduceEqDiff, H13Fs25]
    rw [hval]
    refine CallsH.mono (ce64 m x k h1 (hm.ext y1)) ?_
    rintro v h2 ⟨rfl, x2⟩
    simp only [coreS, Value.cells, Value.oneCell', Nat.reduceAdd, Nat.reduceSub, Nat.reduceMul, Nat.reduceLeDiff, Int.reduceEq, Nat.reduceEqDiff, H13Fs25]
    exact y1.trans x2
end Go.Proofs.YtafemfjhflfdeaaDoor
end
section
namespace Go.Proofs.YtafemfjhflfdeaaDoor
open Go Go.Proofs Go.Eng Go.Run Tab
set_option maxRecDepth 100000
set_option linter.unusedSimpArgs false
set_option linter.unusedVariables false
set_option maxHeartbeats 4000000
set_option linter.defProp false
def H14Fs27 := (And.intro (And.intro (And.intro @agg22 (And.intro @agg24 @agg3)) (And.intro @by3 (And.intro @fo24_0 @fo24_1))) (And.intro (And.intro @inf22 (And.intro @inf24 @inf3)) (And.intro (And.intro @sz22 @sz24) (And.intro @sz3 @Tryd.underlying22))))
theorem first_lw {m : MV} (gd : m.Good) {j y : Nat} {s : OV.Sp} (hs : m.ov.In s) (hy : m.ov.lw (j + 1) s = some y) : m.ov.first j s = decide (castO m j s = some y) := by
  rw [lw_cw gd hs] at hy
  rw [first_cw]
  cases hc : castO m j s with
  | none => cases hw : waitO m j s <;> simp
  | some c =>
    rw [hc] at hy
    cases hw : waitO m j s with
    | none =>
      rw [hw] at hy
      simp only [Option.map_none, OV.better, Option.some.injEq] at hy
      simp [hy]
    | some w =>
      rw [hw] at hy
      simp only [Option.map_some, OV.better, Option.some.injEq] at hy
      by_cases hlt : w + 1 < c
      · rw [if_pos hlt] at hy
        have : ¬ c = y := by omega
        simp [hlt, this]
      · rw [if_neg hlt] at hy
        have h2 : y ≤ w + 1 := by omega
        simp [hlt, hy, h2]
theorem plan27 (m : MV) (x k : Int) (h : Eng.Heap) (hm : m.ok h) :
    CallsH Tryd.prog 27 #[m.val, .int .i64 x, .int .i64 k] h (fun v h' => v = .tuple #[.string (ceP m x k), .int .i64 (ceE m x k)] ∧ Ext h h') := by
  have hb := push_new (h := h) (o := .cells #[.slice m.a m.casts.length m.ca, .slice m.b m.waits.length m.cb, .int .i64 m.lo, .int .i64 m.hi] 24)
  have x0 : Ext h (h.push (.cells #[.slice m.a m.casts.length m.ca, .slice m.b m.waits.length m.cb, .int .i64 m.lo, .int .i64 m.hi] 24)) := (Ext.refl h).push _
  have hval : Value.agg #[.slice m.a m.casts.length m.ca, .slice m.b m.waits.length m.cb, .int .i64 m.lo, .int .i64 m.hi] = m.val := rfl
  (refine CallsH_of_exec Tryd.func27 rfl bod27 ?_; simp only [Tryd.ntmps27, Tryd.results27, coreS, stK_some, splice, Value.cells, Value.oneCell', Nat.reduceAdd, Nat.reduceSub, Nat.reduceMul, Nat.reduceLeDiff, Int.reduceEq, Nat.reduceEqDiff, H14Fs27])
  refine CallsH.mono (ce64 m x k _ (hm.ext x0)) ?_
  rintro v h1 ⟨rfl, x1⟩
  have y1 := x0.trans x1
  have b1 := x1.get hb
  by_cases e0 : ceE m x k = 0
  · obtain ⟨i0, j0, y0, rfl, rfl, hj0, hi0, h16, gd, hy0⟩ := ceE_zero e0
    have eP : ceP m i0 j0 = planS (m.ov.pl j0 (i0, i0)) := by rw [ceP, if_pos e0]; rfl
    rw [eP, e0]
    simp only [e0, b1, decide_true, Bool.not_true, splice, coreS, Value.cells, Value.oneCell', Nat.reduceAdd, Nat.reduceSub, Nat.reduceMul, Nat.reduceLeDiff, Int.reduceEq, Nat.reduceEqDiff, H14Fs27]
    refine WP_tree (by kernel_rfl) sta_ext (.quiet 0 (.quiet 1 (.quiet 2 (.quiet 4 (.keep 3 (.quiet 5 (.quiet 6 (.quiet 7 (.quiet 8 (.fin)))))))))) (by kernel_rfl) rfl (by kernel_rfl) ?_
    simp only [b1, coreS, Value.cells, Value.oneCell', Nat.reduceAdd, Nat.reduceSub, Nat.reduceMul, Nat.reduceLeDiff, Int.reduceEq, Nat.reduceEqDiff, drawS, treeS, H14Fs27]
    refine execT_keep fun h2 x2 => ?_
    simp only [coreS, Value.cells, Value.oneCell', Nat.reduceAdd, Nat.reduceSub, Nat.reduceMul, Nat.reduceLeDiff, Int.reduceEq, Nat.reduceEqDiff, drawS, treeS, H14Fs27]
    rw [hval]
    refine CallsH.mono (waits65 m gd (by omega) h16 j0 (by omega) h2 (hm.ext (y1.trans x2))) ?_
    rintro v h3 ⟨bo, rfl, hbo, x3⟩
    refine ⟨x3, ?_⟩
    simp only [hbo, vec_at m j0 m.casts.length i0 hi0, hy0, enc, Int.toNat_natCast, coreS, Value.cells, Value.oneCell', Nat.reduceAdd, Nat.reduceSub, Nat.reduceMul, Nat.reduceLeDiff, Int.reduceEq, Nat.reduceEqDiff, drawS, treeS, H14Fs27]
    refine ⟨⟨by omega, by omega⟩, rfl, ?_⟩
    refine execT_fin fun h4 x4 => ?_
    have y4 := ((y1.trans x2).trans x3).trans x4
    have b4 := x4.get (x3.get (x2.get b1))
    simp only [coreS, Value.cells, Value.oneCell', Nat.reduceAdd, Nat.reduceSub, Nat.reduceMul, Nat.reduceLeDiff, Int.reduceEq, Nat.reduceEqDiff, H14Fs27]
    have hx0 := y4.size
    refine WP_loopI [8, 9, 10, 11, 29, 30, 31, 32, 33, 34, 35, 36, 37, 38, 39, 40, 41, 42, 43, 44, 45, 46, 47, 48, 49, 50, 51, 52, 53, 54, 55, 56, 57, 58, 59, 60, 61, 62, 63, 64, 65, 66] (fun g h5 => ∃ (d : ByteArray) (i j y : Nat), planS (m.ov.pl j0 (i0, i0)) = d ++ planS (m.ov.pl j (i, i)) ∧ i < m.casts.length ∧ j ≤ 30 ∧ m.ov.lw j (i, i) = some y ∧ d.size ≤ 10000 - (m.ov.pl j (i, i)).length ∧ (m.ov.pl j (i, i)).length ≤ 10000 ∧ g 8 = .string d ∧ g 9 = .int .i64 i ∧ g 10 = .int .i64 j ∧ g 11 = .int .i64 y ∧ Ext h4 h5) (fun g _ => match g 9, g 10 with | .int _ i, .int _ j => (m.ov.pl j.toNat (i.toNat, i.toNat)).length | _, _ => 0) ?_ ?_
    · have hl := (OV.pl_run gd.ok (k := j0) (s := (i0, i0)) ⟨hi0, hi0⟩ hy0).2.2
      have hl2 := lw_le gd h16 (k := j0) (s := (i0, i0)) ⟨hi0, hi0⟩ hy0
      exact ⟨ByteArray.empty, i0, j0, y0, by simp, hi0, hj0, hy0, by simp, by omega, rfl, rfl, rfl, rfl, Ext.refl _⟩
    rintro g h5 ⟨d, i, j, y, e1, hi, hj, hy, hd, hpl, hg8, hg9, hg10, hg11, x5⟩
    have hin : m.ov.In (i, i) := ⟨hi, hi⟩
    have y5 := y4.trans x5
    have b5 := x5.get b4
    cases j with
    | zero =>
      have z0 : ¬ (0 : Int) < ((0 : Nat) : Int) := by decide
      have e3 : planS (m.ov.pl j0 (i0, i0)) = d := by rw [e1]; exact ByteArray.append_empty
      simp only [hg8, hg10, z0, decide_false, coreS, Value.cells, Value.oneCell', Nat.reduceAdd, Nat.reduceSub, Nat.reduceMul, Nat.reduceLeDiff, Int.reduceEq, Nat.reduceEqDiff, H14Fs27]
      exact ⟨by rw [e3], y5⟩
    | succ j =>
      have z0 : (0 : Int) < ((j + 1 : Nat) : Int) := by omega
      simp only [hg8, hg9, hg10, hg11, z0, decide_true, coreS, Value.cells, Value.oneCell', Nat.reduceAdd, Nat.reduceSub, Nat.reduceMul, Nat.reduceLeDiff, Int.reduceEq, Nat.reduceEqDiff, H14Fs27]
      refine WP_tree (by kernel_rfl) sta_ext (.quiet 0 (.quiet 1 (.keep 2 (.quiet 3 (.quiet 4 (.quiet 5 (.quiet 6 (.quiet 8 (.quiet 9 (.quiet 10 (.quiet 11 (.quiet 12 (.quiet 15 (.keep 7 (.quiet 13 (.quiet 14 (.quiet 16 (.quiet 17 (.fin))))))))))))))))))) (by kernel_rfl) rfl (by kernel_rfl) ?_
      simp only [hg9, hg10, b5, coreS, Value.cells, Value.oneCell', Nat.reduceAdd, Nat.reduceSub, Nat.reduceMul, Nat.reduceLeDiff, Int.reduceEq, Nat.reduceEqDiff, drawS, treeS, H14Fs27]
      refine execT_keep fun h6 x6 => ?_
      simp only [coreS, Value.cells, Value.oneCell', Nat.reduceAdd, Nat.reduceSub, Nat.reduceMul, Nat.reduceLeDiff, Int.reduceEq, Nat.reduceEqDiff, drawS, treeS, H14Fs27]
      rw [hval]
      refine CallsH.mono (can67 m i h6) ?_
      rintro v h7 ⟨rfl, x7⟩
      refine ⟨x7, ?_⟩
      have y7 := (y5.trans x6).trans x7
      have b7 := x7.get (x6.get b5)
      have hcan : (decide (m.lo ≤ (i : Int)) && decide ((i : Int) ≤ m.hi)) = m.ov.can (i, i) := by rw [OV.can, gd.lo, gd.hi]; simp only [Int.ofNat_le]
      rw [hcan]
      have hfl := first_lw gd hin hy
      have hj1 : ((j + 1 : Nat) : Int) - 1 = (j : Int) := by omega
      have hcell := (hm.ext y7).c.cell (j := i) hi
      rw [gd.c i hi] at hcell
      have hsmc := (hm.ext y7).c.isSome (by omega)
      have hci : m.ov.c i < m.casts.length := (hin.c gd.ok).1
      cases hc : m.ov.can (i, i) with
      | false =>
        have e4 : m.ov.first j (i, i) = false := by rw [hfl, castO, if_neg (by rw [hc]; simp)]; simp
        simp only [coreS, Value.cells, Value.oneCell', Nat.reduceAdd, Nat.reduceSub, Nat.reduceMul, Nat.reduceLeDiff, Int.reduceEq, Nat.reduceEqDiff, drawS, treeS, H14Fs27]
        refine execT_keep fun h8 x8 => ?_
        simp only [coreS, Value.cells, Value.oneCell', Nat.reduceAdd, Nat.reduceSub, Nat.reduceMul, Nat.reduceLeDiff, Int.reduceEq, Nat.reduceEqDiff, drawS, treeS, H14Fs27]
        refine ⟨Ext.refl _, ?_⟩
        try simp only [coreS, Value.cells, Value.oneCell', Nat.reduceAdd, Nat.reduceSub, Nat.reduceMul, Nat.reduceLeDiff, Int.reduceEq, Nat.reduceEqDiff, drawS, treeS, H14Fs27]
        refine execT_fin fun h9 x9 => ?_
        simp only [coreS, Value.cells, Value.oneCell', Nat.reduceAdd, Nat.reduceSub, Nat.reduceMul, Nat.reduceLeDiff, Int.reduceEq, Nat.reduceEqDiff, H14Fs27]
        have b9 := x9.get (x8.get b7)
        have y9 := (y7.trans x8).trans x9
        obtain ⟨w1, y', rfl, w2⟩ := OV.first_false gd.ok hin e4 hy
        have hwc := (hm.ext y9).w.cell (j := i) (by rw [gd.wl]; exact hi)
        rw [gd.w i hi] at hwc
        have hwl := gd.wl
        have hsmw := (hm.ext y9).w.isSome (by rw [gd.wl]; omega)
        have ep := OV.pl_false gd.ok hin e4 (by rw [hy]; rfl)
        have hlen : (m.ov.pl (j + 1) (i, i)).length = (m.ov.pl (j + 1) (m.ov.w i, m.ov.w i)).length + 1 := by rw [ep]; rfl
        have hy1 : ((y' + 1 : Nat) : Int) - 1 = (y' : Int) := by omega
        have c1 : (⟨#[119]⟩ : ByteArray).size = 1 := rfl
        refine WP_draw (by kernel_rfl) sta_eq [(0, 0), (1, 0), (2, 0), (3, 0), (4, 0), (5, 0), (6, 0), (7, 0), (8, 0), (9, 0), (10, 0), (11, 0)] (by kernel_rfl) rfl (by kernel_rfl) ?_
        simp only [hg8, hg9, hg11, b9, hwc, hy1, Int.toNat_natCast, coreS, Value.cells, Value.oneCell', Nat.reduceAdd, Nat.reduceSub, Nat.reduceMul, Nat.reduceLeDiff, Int.reduceEq, Nat.reduceEqDiff, drawS, H14Fs27]
        have hyb := lw_le gd h16 (hin.w gd.ok) w2
        refine ⟨by rw [c1]; omega, ⟨by omega, by omega⟩, hsmw, by rw [inK_i64]; omega, roundK_mk (by kernel_rfl) ⟨d ++ ⟨#[119]⟩, m.ov.w i, j + 1, y', by rw [e1, ep, planS_cons, ByteArray.append_assoc]; rfl, (hin.w gd.ok).1, hj, w2, by rw [ByteArray.size_append, c1]; omega, by omega, rfl, rfl, rfl, rfl, (((x5.trans x6).trans x7).trans x8).trans x9⟩ ?_⟩
        show (m.ov.pl (j + 1) (m.ov.w i, m.ov.w i)).length < (m.ov.pl (j + 1) (i, i)).length
        omega
      | true =>
        have e4 : castO m j (i, i) = m.ov.lw j (m.ov.c i, m.ov.c i) := by rw [castO, if_pos hc]; rfl
        rw [e4] at hfl
        simp only [hj1, b7, hg9, hg10, hg11, hcell, splice, Int.toNat_natCast, coreS, Value.cells, Value.oneCell', Nat.reduceAdd, Nat.reduceSub, Nat.reduceMul, Nat.reduceLeDiff, Int.reduceEq, Nat.reduceEqDiff, drawS, treeS, H14Fs27]
        refine ⟨by rw [inK_i64]; omega, ⟨by omega, by omega⟩, hsmc, ?_⟩
        refine execT_keep fun h8 x8 => ?_
        simp only [coreS, Value.cells, Value.oneCell', Nat.reduceAdd, Nat.reduceSub, Nat.reduceMul, Nat.reduceLeDiff, Int.reduceEq, Nat.reduceEqDiff, drawS, treeS, H14Fs27]
        rw [hval]
        refine CallsH.mono (waits65 m gd (by omega) h16 j (by omega) h8 (hm.ext (y7.trans x8))) ?_
        rintro v h9 ⟨bo2, rfl, hbo2, x9⟩
        refine ⟨x9, ?_⟩
        simp only [hbo2, vec_at m j m.casts.length _ hci, Int.toNat_natCast, coreS, Value.cells, Value.oneCell', Nat.reduceAdd, Nat.reduceSub, Nat.reduceMul, Nat.reduceLeDiff, Int.reduceEq, Nat.reduceEqDiff, drawS, treeS, H14Fs27]
        refine ⟨⟨by omega, by omega⟩, rfl, ?_⟩
        have hq : decide (enc (m.ov.lw j (m.ov.c i, m.ov.c i)) = (y : Int)) = m.ov.first j (i, i) := by
          rw [hfl]
          refine decide_eq_decide.2 ?_
          cases m.ov.lw j (m.ov.c i, m.ov.c i) with
          | none => simp [enc]
          | some z => simp only [enc, Option.some.injEq]; omega
        simp only [hq, coreS, Value.cells, Value.oneCell', Nat.reduceAdd, Nat.reduceSub, Nat.reduceMul, Nat.reduceLeDiff, Int.reduceEq, Nat.reduceEqDiff, drawS, treeS, H14Fs27]
        refine execT_fin fun h10 x10 => ?_
        cases hf : m.ov.first j (i, i) with
        | true =>
          simp only [coreS, Value.cells, Value.oneCell', Nat.reduceAdd, Nat.reduceSub, Nat.reduceMul, Nat.reduceLeDiff, Int.reduceEq, Nat.reduceEqDiff, H14Fs27]
          have b9 := x10.get (x9.get (x8.get b7))
          have y9 := ((y7.trans x8).trans x9).trans x10
          obtain ⟨f1, f2, f3⟩ := OV.first_true gd.ok hin hf
          have hcc := (hm.ext y9).c.cell (j := i) hi
          rw [gd.c i hi] at hcc
          have hsmc := (hm.ext y9).c.isSome (by omega)
          have ep := OV.pl_true gd.ok hin hf
          have hlen : (m.ov.pl (j + 1) (i, i)).length = (m.ov.pl j (m.ov.c i, m.ov.c i)).length + 1 := by rw [ep]; rfl
          have c1 : (⟨#[99]⟩ : ByteArray).size = 1 := rfl
          refine WP_draw (by kernel_rfl) sta_eq [(0, 0), (1, 0), (2, 0), (3, 0), (4, 0), (5, 0), (6, 0), (7, 0), (8, 0), (9, 0), (10, 0), (11, 0)] (by kernel_rfl) rfl (by kernel_rfl) ?_
          simp only [hg8, hg9, hg10, b9, hcc, hj1, Int.toNat_natCast, coreS, Value.cells, Value.oneCell', Nat.reduceAdd, Nat.reduceSub, Nat.reduceMul, Nat.reduceLeDiff, Int.reduceEq, Nat.reduceEqDiff, drawS, H14Fs27]
          refine ⟨by rw [c1]; omega, ⟨by omega, by omega⟩, hsmc, by rw [inK_i64]; omega, roundK_mk (by kernel_rfl) ⟨d ++ ⟨#[99]⟩, m.ov.c i, j, y, by rw [e1, ep, planS_cons, ByteArray.append_assoc]; rfl, hci, by omega, by rw [← hy, f2]; rfl, by rw [ByteArray.size_append, c1]; omega, by omega, rfl, rfl, rfl, rfl, ((((x5.trans x6).trans x7).trans x8).trans x9).trans x10⟩ ?_⟩
          show (m.ov.pl j (m.ov.c i, m.ov.c i)).length < (m.ov.pl (j + 1) (i, i)).length
          omega
        | false =>
          simp only [coreS, Value.cells, Value.oneCell', Nat.reduceAdd, Nat.reduceSub, Nat.reduceMul, Nat.reduceLeDiff, Int.reduceEq, Nat.reduceEqDiff, H14Fs27]
          have b9 := x10.get (x9.get (x8.get b7))
          have y9 := ((y7.trans x8).trans x9).trans x10
          obtain ⟨w1, y', rfl, w2⟩ := OV.first_false gd.ok hin hf hy
          have hwc := (hm.ext y9).w.cell (j := i) (by rw [gd.wl]; exact hi)
          rw [gd.w i hi] at hwc
          have hwl := gd.wl
          have hsmw := (hm.ext y9).w.isSome (by rw [gd.wl]; omega)
          have ep := OV.pl_false gd.ok hin hf (by rw [hy]; rfl)
          have hlen : (m.ov.pl (j + 1) (i, i)).length = (m.ov.pl (j + 1) (m.ov.w i, m.ov.w i)).length + 1 := by rw [ep]; rfl
          have hy1 : ((y' + 1 : Nat) : Int) - 1 = (y' : Int) := by omega
          have c1 : (⟨#[119]⟩ : ByteArray).size = 1 := rfl
          refine WP_draw (by kernel_rfl) sta_eq [(0, 0), (1, 0), (2, 0), (3, 0), (4, 0), (5, 0), (6, 0), (7, 0), (8, 0), (9, 0), (10, 0), (11, 0)] (by kernel_rfl) rfl (by kernel_rfl) ?_
          simp only [hg8, hg9, hg11, b9, hwc, hy1, Int.toNat_natCast, coreS, Value.cells, Value.oneCell', Nat.reduceAdd, Nat.reduceSub, Nat.reduceMul, Nat.reduceLeDiff, Int.reduceEq, Nat.reduceEqDiff, drawS, H14Fs27]
          have hyb := lw_le gd h16 (hin.w gd.ok) w2
          refine ⟨by rw [c1]; omega, ⟨by omega, by omega⟩, hsmw, by rw [inK_i64]; omega, roundK_mk (by kernel_rfl) ⟨d ++ ⟨#[119]⟩, m.ov.w i, j + 1, y', by rw [e1, ep, planS_cons, ByteArray.append_assoc]; rfl, (hin.w gd.ok).1, hj, w2, by rw [ByteArray.size_append, c1]; omega, by omega, rfl, rfl, rfl, rfl, ((((x5.trans x6).trans x7).trans x8).trans x9).trans x10⟩ ?_⟩
          show (m.ov.pl (j + 1) (m.ov.w i, m.ov.w i)).length < (m.ov.pl (j + 1) (i, i)).length
          omega
  · have eP : ceP m x k = ⟨#[]⟩ := by rw [ceP, if_neg e0]
    rw [eP]
    simp only [e0, b1, decide_false, Bool.not_false, coreS, Value.cells, Value.oneCell', Nat.reduceAdd, Nat.reduceSub, Nat.reduceMul, Nat.reduceLeDiff, Int.reduceEq, Nat.reduceEqDiff, H14Fs27]
    rw [hval]
    refine CallsH.mono (ce64 m x k h1 (hm.ext y1)) ?_
    rintro v h2 ⟨rfl, x2⟩
    simp only [coreS, Value.cells, Value.oneCell', Nat.reduceAdd, Nat.reduceSub, Nat.reduceMul, Nat.reduceLeDiff, Int.reduceEq, Nat.reduceEqDiff, H14Fs27]
    exact y1.trans x2
end Go.Proofs.YtafemfjhflfdeaaDoor
end
section
set_option linter.unusedVariables false
set_option linter.unusedSimpArgs false
namespace Go.Eng
open Go
section yields
variable {P : Program} {l : Option Nat} {h : Heap} {e : Env} {d : List Deferred} {k : Cont}
def CallY (P : Program) (v : Value) (vs : List Value) (h : Heap) (K : Value → Heap → Prop) : Prop :=
  ∀ (er : Env) (f : Operand) (xs : Array Operand) (ats : Array TypeId) (ty : TypeId), ev er f = v → (xs.map (ev er)).toList = vs → opSem P (.call ⟨.value f, xs, ats⟩) ty er h K
theorem CallY.run {v : Value} {vs : List Value} {K K' : Value → Heap → Prop} (H : CallY P v vs h K) {er : Env} {f : Operand} {xs : Array Operand} {ats : Array TypeId} {ty : TypeId} (hf : ev er f = v) (hx : (xs.map (ev er)).toList = vs)
    (hk : ∀ v h, K v h → K' v h) : opSem P (.call ⟨.value f, xs, ats⟩) ty er h K' := opSem_mono hk (H er f xs ats ty hf hx)
theorem callV_yield {lo : Nat} {first caps args : Array Value} {K : Value → Heap → Prop} {F : Prop} : callV P (.func (.yield lo) first caps) args h K F = F := by unfold callV; rfl
theorem yrun_getLoop {w : World} {r : Nat} {rec : Loop} (hr : w.heap[r]? = some (.loop rec)) : (Instr.getLoop r).run P w = .ok rec w := by
  simp [Instr.getLoop, getObj, Sem.run, hr, Result.andThen]
theorem yrun_setLoop {w : World} {r : Nat} {rec : Loop} (hr : w.heap[r]? = some (.loop rec)) (o : Obj) : (setObj r o).run P w = .ok () { w with heap := w.heap.setIfInBounds r o } := by
  simp [setObj, Sem.run, hr]
theorem yrun_yield {w : World} {r : Nat} {rec : Loop} (hr : w.heap[r]? = some (.loop rec)) {args : Array Value} (hs : args.size = rec.params.size) :
    (Instr.yield r args).run P w = .ok (.round r rec.fn ((rec.params.zip args).foldl (fun tmps (x : Tmp × Value) => tmps.setIfInBounds x.1 x.2) rec.tmps) rec.assign rec.body) w := by
  simp [Instr.yield, yrun_getLoop hr, Result.andThen, hs]
theorem yrun_begin {w : World} {r : Nat} {rec : Loop} (hr : w.heap[r]? = some (.loop rec)) (hs : rec.state = .ready) :
    (Instr.beginRound r).run P w = .ok () { w with heap := w.heap.setIfInBounds r (.loop { rec with state := .busy }) } := by
  simp [Instr.beginRound, yrun_getLoop hr, yrun_setLoop hr, Result.andThen, hs]
theorem yrun_end {w : World} {r : Nat} {rec : Loop} (hr : w.heap[r]? = some (.loop rec)) (j : Option Code) :
    (Instr.endRound r j).run P w = .ok (.bool j.isNone) { w with heap := w.heap.setIfInBounds r (.loop { rec with state := if j.isNone then .ready else .done, pending := j }) } := by
  simp [Instr.endRound, yrun_getLoop hr, yrun_setLoop hr, Result.andThen]
theorem yrun_endLoop {w : World} {r : Nat} {rec : Loop} (hr : w.heap[r]? = some (.loop rec)) (hs : rec.state ≠ .busy) :
    (Instr.endLoop r).run P w = .ok rec.pending { w with heap := w.heap.setIfInBounds r (.loop { rec with state := .exhausted }) } := by
  have : (rec.state == LoopState.busy) = false := by cases hst : rec.state <;> first | rfl | exact absurd hst hs
  simp [Instr.endLoop, yrun_getLoop hr, yrun_setLoop hr, Result.andThen, this]
  intro hh; exact absurd hh hs
theorem yfoldl_arr : ∀ (l : List (Tmp × Value)) (a : Array Value), (l.foldl (fun tmps (x : Tmp × Value) => tmps.setIfInBounds x.1 x.2) a).toList = l.foldl (fun er (x : Tmp × Value) => er.set x.1 x.2) a.toList
  | [], a => rfl
  | x :: l, a => by
    simp only [List.foldl_cons]
    rw [yfoldl_arr l]
    simp
theorem yrun_enter {w : World} {fn : FuncId} {tmps : Array Value} {ps : Array Tmp} {a b : Code} : (Instr.enterLoop fn tmps ps a b none).run P w = .ok (w.heap.size + 1, [{ target := .collected w.heap.size, args := #[] }])
    { w with heap := (w.heap.push (.deferred (some []))).push (.loop { state := .ready, pending := none, fn, tmps, params := ps, assign := a, body := b, defers := w.heap.size }) } := by
  simp [Instr.enterLoop, newObj, Sem.run, Result.andThen]
  exact ⟨rfl, rfl, rfl⟩
def binds : List Tmp → List Value → Env → Env
  | p :: ps, v :: vs, e => binds ps vs (e.set p v)
  | _, _, e => e
theorem binds_cons {p : Tmp} {ps : List Tmp} {v : Value} {vs : List Value} {e : Env} : binds (p :: ps) (v :: vs) e = binds ps vs (e.set p v) := eqi rfl
theorem binds_nil {vs : List Value} {e : Env} : binds [] vs e = e := by simp [binds]
theorem binds_eq : ∀ (ps : List Tmp) (vs : List Value) (e : Env), binds ps vs e = (ps.zip vs).foldl (fun er (x : Tmp × Value) => er.set x.1 x.2) e
  | [], vs, e => by simp [binds]
  | p :: ps, [], e => by simp [binds]
  | p :: ps, v :: vs, e => by simp [binds, binds_eq ps vs]
def endY (lo : Nat) (K : Value → Heap → Prop) : Cont := fun x _ _ h => ∃ rec, h[lo]? = some (.loop rec) ∧ match x with
  | .normal => K (.bool true) (h.setIfInBounds lo (.loop { rec with state := .ready, pending := none }))
  | .ret => K (.bool false) (h.setIfInBounds lo (.loop { rec with state := .done, pending := some .ret }))
  | .exit i => K (.bool false) (h.setIfInBounds lo (.loop { rec with state := .done, pending := some (.exit i) }))
  | .goto i => K (.bool false) (h.setIfInBounds lo (.loop { rec with state := .done, pending := some (.goto i) }))
  | _ => False
def asgY (P : Program) (lo : Nat) (body : Code) (K : Value → Heap → Prop) : Cont := fun x e d h => x = .normal ∧ ∃ rec, h[lo]? = some (.loop rec) ∧ rec.state = .ready ∧
  exec (some lo) P body (endY lo K) e d (h.setIfInBounds lo (.loop { rec with state := .busy }))
theorem callY_yield {lo : Nat} {rec : Loop} {vs : List Value} {K : Value → Heap → Prop} (hr : h[lo]? = some (.loop rec)) (hsz : vs.length = rec.params.size)
    (H : exec (some lo) P rec.assign (asgY P lo rec.body K) (binds rec.params.toList vs rec.tmps.toList) [] h) : CallY P (.func (.yield lo) #[] #[]) vs h K := by
  intro er f xs ats ty hf hx
  unfold opSem
  refine And.intro rfl fun w hw => ?_
  subst hw
  have hargs : xs.map (ev er) = vs.toArray := by apply Array.toList_inj.1; simpa using hx
  have hrun : (execOp (ev er) { dst := none, op := .call ⟨.value f, xs, ats⟩, type := ty, pos := "", after := #[], guard := none }).run P w = .ok (.round lo rec.fn ((rec.params.zip vs.toArray).foldl (fun tmps (x : Tmp × Value) => tmps.setIfInBounds x.1 x.2) rec.tmps) rec.assign rec.body) w := by
    have := yrun_yield (P := P) hr (args := vs.toArray) (by simpa using hsz)
    simp only [execOp, resolve, hf, Deferred.ofValue, invoke, Sem.run_bind, Sem.run_pure, Result.andThen_ok, hargs, Array.empty_append, this]
  rw [hrun]
  refine ⟨Eng.Rest.refl w, roundIn_of_wpIn trivial ?_⟩
  have ha := exec_sound _ _ _ _ _ H
  unfold WP at ha
  have ha := ha w rfl
  have htm : (binds rec.params.toList vs rec.tmps.toList).toArray = ((rec.params.zip vs.toArray).foldl (fun tmps (x : Tmp × Value) => tmps.setIfInBounds x.1 x.2) rec.tmps) := by
    apply Array.toList_inj.1
    rw [← Array.foldl_toList, yfoldl_arr, binds_eq]
    simp
  rw [← htm]
  refine wpIn_mono ha ?_
  rintro x1 a1 w1 ⟨⟨hx1, rec1, b1, b2, b3⟩, hr1⟩
  subst hx1
  refine ⟨_, yrun_begin (P := P) b1 b2, ?_⟩
  have hb := exec_sound _ _ _ _ _ b3
  unfold WP at hb
  have hb := hb { w1 with heap := w1.heap.setIfInBounds lo (.loop { rec1 with state := .busy }) } rfl
  rw [toList_act] at hb
  refine wpIn_mono hb ?_
  rintro x2 a2 w2 ⟨⟨rec2, c1, c2⟩, hr2⟩
  have hrest : Eng.Rest w w2 := hr1.trans ⟨hr2.os, hr2.tape, hr2.output⟩
  cases x2 with
  | normal => exact ⟨_, _, yrun_end (P := P) c1 none, _, rfl, c2, hrest.trans ⟨rfl, rfl, rfl⟩⟩
  | ret => exact ⟨_, _, yrun_end (P := P) c1 (some .ret), _, rfl, c2, hrest.trans ⟨rfl, rfl, rfl⟩⟩
  | exit i => exact ⟨_, _, yrun_end (P := P) c1 (some (.exit i)), _, rfl, c2, hrest.trans ⟨rfl, rfl, rfl⟩⟩
  | goto i => exact ⟨_, _, yrun_end (P := P) c1 (some (.goto i)), _, rfl, c2, hrest.trans ⟨rfl, rfl, rfl⟩⟩
  | _ => exact c2.elim
def mkD (r : Nat) : Deferred := { target := .collected r, args := #[] }
def endF (l : Option Nat) (P : Program) (lo : Nat) (k : Cont) (e : Env) (d : List Deferred) (h : Heap) : Prop := ∃ rec, h[lo]? = some (.loop rec) ∧ rec.state ≠ .busy ∧ (match rec.pending with
  | none => k .normal e d (h.setIfInBounds lo (.loop { rec with state := .exhausted }))
  | some j => exec l P j k e d (h.setIfInBounds lo (.loop { rec with state := .exhausted })))
theorem WP_range {f : Operand} {ps : Array Tmp} {a b : Code} {gf : FuncId} {first caps : Array Value} (hf : ev e f = .func (.func gf) first caps)
    (H : ∀ fn : FuncId, CallsH P gf (first ++ #[.func (.yield (h.size + 1)) #[] #[]] ++ caps) ((h.push (.deferred (some []))).push (.loop { state := .ready, pending := none, fn, tmps := e.toArray, params := ps, assign := a, body := b, defers := h.size }))
      (fun _ h2 => endF none P (h.size + 1) k e (mkD h.size :: d) h2)) : WP none P (.rangeFunc f ps a b) k e d h := by
  unfold WP
  intro w hw
  subst hw
  refine wpIn_rangeFunc fun fn _ => ?_
  have hcl := H fn
  unfold CallsH at hcl
  obtain ⟨hbod, hcl⟩ := hcl
  obtain ⟨W1, hW1⟩ : ∃ W1 : World, W1 = { w with heap := (w.heap.push (.deferred (some []))).push (.loop { state := .ready, pending := none, fn, tmps := e.toArray, params := ps, assign := a, body := b, defers := w.heap.size }) } := ⟨_, rfl⟩
  have hcw := hcl W1 (by rw [hW1])
  unfold CallsW at hcw
  refine ⟨w.heap.size + 1, [mkD w.heap.size], W1, ⟨.fn (.func gf) caps, first ++ #[.func (.yield (w.heap.size + 1)) #[] #[]]⟩, W1, gf, first ++ #[.func (.yield (w.heap.size + 1)) #[] #[]] ++ caps, W1, ?_, ?_, fun _ _ => trivial, ?_, fun hh => by simp [fen_depth] at hh, callsIn_of none ?_⟩
  · rw [hW1]
    exact yrun_enter
  · have hev : ev e (.const (.func (.yield (w.heap.size + 1)) #[] #[])) = .func (.yield (w.heap.size + 1)) #[] #[] := rfl
    rw [eval_ev]
    simp only [resolve, hf, Deferred.ofValue, Sem.run_pure, List.map_toArray, List.map_cons, List.map_nil, hev]
  · show (callFunc gf _).run P _ = _
    exact call_run hbod _
  · refine Calls.mono hcw ?_
    rintro e' w3 ⟨v, rfl, ⟨rec, q1, q2, q3⟩, hr3⟩
    have hr3 : Eng.Rest w w3 := by rw [hW1] at hr3; exact ⟨hr3.os, hr3.tape, hr3.output⟩
    refine ⟨_, _, yrun_endLoop (P := P) q1 q2, ?_⟩
    cases hp : rec.pending with
    | none =>
      rw [hp] at q3
      exact ⟨q3, ⟨hr3.os, hr3.tape, hr3.output⟩⟩
    | some j =>
      rw [hp] at q3
      have hb := exec_sound _ _ _ _ _ q3
      unfold WP at hb
      rw [← hp] at hb
      have hb := hb { w3 with heap := w3.heap.setIfInBounds (w.heap.size + 1) (.loop { rec with state := .exhausted }) } rfl
      rw [hp] at hb
      refine wpIn_mono hb ?_
      rintro x a' w4 ⟨c1, c2⟩
      exact ⟨c1, hr3.trans ⟨c2.os, c2.tape, c2.output⟩⟩
theorem ystepR_scope {b : Frame} {a : Act} {k : List Item} {cs : List Frame} {w : World} {c : Code} : Go.step P (lone (b.atR a (.code (.scope c) :: k)) cs w) = .next (lone (b.atR a (.code c :: .inScope c :: k)) cs w) :=
  step_lone_go (by simp [stepG, stepG.exec, Frame.atR])
theorem ystepR_inScope {b : Frame} {a : Act} {k : List Item} {cs : List Frame} {w : World} {c : Code} : Go.step P (lone (b.atR a (.inScope c :: k)) cs w) = .next (lone (b.atR a k) cs w) :=
  step_lone_go (by simp [stepG, stepG.exec, Frame.atR])
theorem ywpIn_scope {F : Fence} {n : Nat} {Q : Exit → Act → World → Prop} {a : Act} {w : World} {c : Code} (hc : c.wpIn F n P (fun x a w => (∀ i, x ≠ .goto i) ∧ Q x a w) a w) : (Code.scope c).wpIn F n P Q a w := by
  intro b k cs hro hb hr
  have h0 : (lone (b.atR a (.code (.scope c) :: k)) cs w).fenced P F := fenced_calm hb hr rfl
  obtain ⟨e, a₁, w₁, hq, harr⟩ := hc b (.inScope c :: k) cs hro hb hr
  cases e with
  | normal => exact ⟨.normal, a₁, w₁, hq.2, .head h0 ystepR_scope (StepsIn.trans harr (.one (fenced_calm hb hr rfl) ystepR_inScope))⟩
  | exit id =>
    have hx : exitTo id (.inScope c :: k) = exitTo id k := by simp [exitTo]
    exact ⟨.exit id, a₁, w₁, hq.2, fun k' hk => .head h0 ystepR_scope (harr.1 k' (by rw [hx]; exact hk)),
      fun hr' hk => let ⟨k₁, h1, h2⟩ := harr.2 hr' (by rw [hx]; exact hk); ⟨k₁, h1, .head h0 ystepR_scope h2⟩⟩
  | goto l => exact absurd rfl (hq.1 l)
  | ret => exact ⟨_, a₁, w₁, hq.2, .of_steps (.one h0 ystepR_scope) harr⟩
  | panic ch => exact ⟨_, a₁, w₁, hq.2, .of_steps (.one h0 ystepR_scope) harr⟩
  | outgrown => exact ⟨_, a₁, w₁, hq.2, .of_steps (.one h0 ystepR_scope) harr⟩
theorem WP_range' {f : Operand} {ps : Array Tmp} {a b : Code} {gf : FuncId} {first caps : Array Value} (hf : ev e f = .func (.func gf) first caps)
    (H : ∀ R : Loop, R.state = .ready → R.pending = none → R.tmps = e.toArray → R.params = ps → R.assign = a → R.body = b → R.defers = h.size →
      CallsH P gf (first ++ #[.func (.yield (h.size + 1)) #[] #[]] ++ caps) ((h.push (.deferred (some []))).push (.loop R)) (fun _ h2 => endF none P (h.size + 1) k e (mkD h.size :: d) h2)) : WP none P (.rangeFunc f ps a b) k e d h :=
  WP_range hf fun fn => H _ rfl rfl rfl rfl rfl rfl rfl
theorem Loop.back {R : Loop} (h1 : R.state = .ready) (h2 : R.pending = none) : ({ ({ R with state := .busy } : Loop) with state := .ready, pending := none } : Loop) = R := by
  cases R; simp_all
def scopeK (k : Cont) : Cont := fun x e d h => (∀ i, x ≠ .goto i) ∧ k x e d h
theorem WP_scope {c : Code} (H : exec l P c (scopeK k) e d h) : WP l P (.scope c) k e d h := by
  have hb := exec_sound _ _ _ _ _ H
  unfold WP at *
  intro w hw
  refine ywpIn_scope (wpIn_mono (hb w hw) ?_)
  rintro x a' w' ⟨⟨c1, c2⟩, hr⟩
  exact ⟨c1, c2, hr⟩
theorem exec_scope {c : Code} (H : exec l P c (scopeK k) e d h) : exec l P (.scope c) k e d h := by
  unfold exec
  exact WP_scope H
theorem scopeK_normal : scopeK k .normal e d h = k .normal e d h := eqi (propext ⟨fun H => H.2, fun H => ⟨fun _ hi => (by cases hi), H⟩⟩)
theorem scopeK_ret : scopeK k .ret e d h = k .ret e d h := eqi (propext ⟨fun H => H.2, fun H => ⟨fun _ hi => (by cases hi), H⟩⟩)
theorem scopeK_exit {i : Nat} : scopeK k (.exit i) e d h = k (.exit i) e d h := eqi (propext ⟨fun H => H.2, fun H => ⟨fun _ hi => (by cases hi), H⟩⟩)
theorem asgY_normal {lo : Nat} {body : Code} {K : Value → Heap → Prop} {rec : Loop} (hr : h[lo]? = some (.loop rec)) (hs : rec.state = .ready) (H : exec (some lo) P body (endY lo K) e d (h.setIfInBounds lo (.loop { rec with state := .busy }))) : asgY P lo body K .normal e d h :=
  ⟨rfl, rec, hr, hs, H⟩
theorem Upd.set {b : Nat} {o : Obj} : Upd h (h.setIfInBounds b o) b := ⟨by simp, fun b' hb => Array.getElem?_setIfInBounds_ne (Ne.symm hb)⟩
theorem set_get {b : Nat} {o : Obj} (hb : b < h.size) : (h.setIfInBounds b o)[b]? = some o := by simp [hb]
def endI (lo : Nat) (o : Obj) (K : Heap → Prop) (Br : Code → Heap → Prop) : Cont := fun x _ _ h => h[lo]? = some o ∧ match x with
  | .normal => K h
  | .ret => Br .ret h
  | .exit i => Br (.exit i) h
  | _ => False
def asgI (P : Program) (lo : Nat) (o : Obj) (b : Code) (K : Heap → Prop) (Br : Code → Heap → Prop) : Cont := fun x e d h => x = .normal ∧ h[lo]? = some o ∧
  ∀ h2 o2, Upd h h2 lo → h2[lo]? = some o2 → exec (some lo) P b (endI lo o2 K Br) e d h2
theorem endI_normal {lo : Nat} {o : Obj} {K : Heap → Prop} {Br : Code → Heap → Prop} : endI lo o K Br .normal e d h = (h[lo]? = some o ∧ K h) := eqi rfl
theorem endI_ret {lo : Nat} {o : Obj} {K : Heap → Prop} {Br : Code → Heap → Prop} : endI lo o K Br .ret e d h = (h[lo]? = some o ∧ Br .ret h) := eqi rfl
theorem asgI_normal {lo : Nat} {o : Obj} {b : Code} {K : Heap → Prop} {Br : Code → Heap → Prop} : asgI P lo o b K Br .normal e d h = (h[lo]? = some o ∧
  ∀ h2 o2, Upd h h2 lo → h2[lo]? = some o2 → exec (some lo) P b (endI lo o2 K Br) e d h2) := eqi (propext ⟨fun H => H.2, fun H => ⟨rfl, H⟩⟩)
end yields
end Go.Eng
end
section
namespace Go.Proofs.YtafemfjhflfdeaaDoor
open Go Go.Proofs Go.Eng Go.Run Tab
set_option maxRecDepth 100000
set_option linter.unusedSimpArgs false
set_option linter.unusedVariables false
set_option maxHeartbeats 4000000
set_option linter.defProp false
def H15Fs28 := (And.intro (And.intro (And.intro @agg24 @by3) (And.intro @inf24 @inf3)) (And.intro (And.intro @sz24 @sz3) (And.intro @zero3 @Tryd.underlying22)))
def H15Fs68 := (And.intro (And.intro (And.intro @agg22 @fo112_0) (And.intro @fo24_0 (And.intro @fps84_0 @fps84_1))) (And.intro (And.intro @inf22 @okf84) (And.intro @sz22 (And.intro @zero84 @Tryd.underlying22))))
def moV (m : MV) (i : Nat) : Int := match m.ov.most i with | some k => k | none => -1
theorem mo_stop {m : MV} (gd : m.Good) {i c : Nat} (hi : i < m.casts.length) (h0 : ∀ j, j ≤ c → (m.ov.lw j (i, i)).isSome) (h1 : m.ov.lw (c + 1) (i, i) = none) : moV m i = c := by
  unfold moV
  cases hm : m.ov.most i with
  | none =>
    obtain ⟨x, hx⟩ := OV.most_none gd.ok hi hm (c + 1)
    rw [h1] at hx; cases hx
  | some k =>
    obtain ⟨_, h2, h3⟩ := OV.most_some hm
    have : k = c := by
      rcases Nat.lt_trichotomy k c with h | h | h
      · have := h0 (k + 1) (by omega)
        rw [h2] at this; cases this
      · exact h
      · have := h3 (c + 1) (by omega)
        rw [h1] at this; cases this
    rw [this]
theorem mo_end {m : MV} {i : Nat} (h0 : ∀ j, j ≤ m.casts.length + 1 → (m.ov.lw j (i, i)).isSome) : moV m i = -1 := by
  unfold moV
  cases hm : m.ov.most i with
  | none => rfl
  | some k =>
    obtain ⟨h1, h2, _⟩ := OV.most_some hm
    have h3 : k ≤ m.casts.length := h1
    have := h0 (k + 1) (by omega)
    rw [h2] at this; cases this
theorem most68 (m : MV) (gd : m.Good) (hn16 : m.casts.length ≤ 16) (b : Nat) (i : Nat) (hi : i < m.casts.length) (h : Eng.Heap) (hm : m.ok h) (ho : Oven h b m) :
    CallsH Tryd.prog 68 #[.pointer (some ⟨b, 0, none⟩), .int .i64 i] h (fun v h' => v = .int .i64 (moV m i) ∧ Ext h h') := by
  have hin : m.ov.In (i, i) := ⟨hi, hi⟩
  (refine CallsH_of_exec Tryd.func68 rfl bod68 ?_; simp only [Tryd.ntmps68, Tryd.results68, coreS, stK_some, splice, Value.cells, Value.oneCell', Nat.reduceAdd, Nat.reduceSub, Nat.reduceMul, Nat.reduceLeDiff, Int.reduceEq, Nat.reduceEqDiff, H15Fs68])
  refine exec_scope ?_
  simp only [coreS, Value.cells, Value.oneCell', Nat.reduceAdd, Nat.reduceSub, Nat.reduceMul, Nat.reduceLeDiff, Int.reduceEq, Nat.reduceEqDiff, H15Fs68]
  refine WP_loopI [4, 5, 6, 7, 8, 9, 10, 11, 12, 13, 14, 15, 16, 17, 18, 19, 20, 21, 22, 23, 24, 25, 26, 27, 28, 29, 30, 31] (fun g h' => ∃ c : Nat, c ≤ m.casts.length ∧ g 5 = .int .i64 c ∧ (∀ j, j ≤ c → (m.ov.lw j (i, i)).isSome) ∧ Ext h h') (fun g _ => match g 5 with | .int _ q => m.casts.length + 1 - q.toNat | _ => 0) ⟨0, by omega, rfl, fun j hj => by rw [Nat.le_zero.1 hj]; rfl, Ext.refl h⟩ ?_
  rintro g h1 ⟨c, hc, hg5, hall, x1⟩
  have ec : (c : Int) + 1 = ((c + 1 : Nat) : Int) := by omega
  simp only [hg5, splice, coreS, Value.cells, Value.oneCell', Nat.reduceAdd, Nat.reduceSub, Nat.reduceMul, Nat.reduceLeDiff, Int.reduceEq, Nat.reduceEqDiff, H15Fs68]
  refine ⟨by rw [inK_i64]; omega, ?_⟩
  rw [ec]
  refine CallsH.mono (plan90 m gd hn16 b (i, i) (c + 1) (by omega) h1 hin (hm.ext x1) (x1.get ho)) ?_
  rintro v h2 ⟨rfl, x2⟩
  have x12 := x1.trans x2
  have o2 := x12.get ho
  cases hl : m.ov.lw (c + 1) (i, i) with
  | none =>
    rw [mo_stop gd hi hall hl]
    simp only [hl, Option.isSome_none, Bool.false_eq_true, if_false, Bool.not_false, scopeK_ret, scopeK_normal, scopeK_exit, coreS, Value.cells, Value.oneCell', Nat.reduceAdd, Nat.reduceSub, Nat.reduceMul, Nat.reduceLeDiff, Int.reduceEq, Nat.reduceEqDiff, H15Fs68]
    exact x12
  | some y =>
    have hall' : ∀ j, j ≤ c + 1 → (m.ov.lw j (i, i)).isSome := fun j hj => by
      by_cases h : j = c + 1
      · subst h; rw [hl]; rfl
      · exact hall j (by omega)
    by_cases hcn : c = m.casts.length
    · subst hcn
      rw [mo_end hall']
      simp only [hl, o2, Option.isSome_some, if_true, Bool.not_true, decide_true, scopeK_ret, scopeK_normal, scopeK_exit, coreS, Value.cells, Value.oneCell', Nat.reduceAdd, Nat.reduceSub, Nat.reduceMul, Nat.reduceLeDiff, Int.reduceEq, Nat.reduceEqDiff, H15Fs68]
      exact x12
    · have hcn' : ¬ (c : Int) = m.casts.length := by omega
      simp only [hl, o2, hcn', Option.isSome_some, if_true, Bool.not_true, decide_false, scopeK_ret, scopeK_normal, scopeK_exit, coreS, Value.cells, Value.oneCell', Nat.reduceAdd, Nat.reduceSub, Nat.reduceMul, Nat.reduceLeDiff, Int.reduceEq, Nat.reduceEqDiff, H15Fs68]
      refine ⟨by rw [inK_i64]; omega, roundK_mk (by kernel_rfl) ⟨c + 1, by omega, rfl, hall', x12⟩ ?_⟩
      show m.casts.length + 1 - ((c : Int) + 1).toNat < m.casts.length + 1 - (c : Int).toNat
      omega
def moE (m : MV) (x : Int) : Int := if opn m [x] ≠ 0 then opn m [x] else if moV m x.toNat < 0 then 4 else 0
def moW (m : MV) (x : Int) : Int := if moE m x = 0 then moV m x.toNat else 0
theorem most28 (m : MV) (x : Int) (h : Eng.Heap) (hm : m.ok h) :
    CallsH Tryd.prog 28 #[m.val, .int .i64 x] h (fun v h' => v = .tuple #[.int .i64 (moW m x), .int .i64 (moE m x)] ∧ Ext h h') := by
  have x0 : Ext h (h.push (.cells #[.slice m.a m.casts.length m.ca, .slice m.b m.waits.length m.cb, .int .i64 m.lo, .int .i64 m.hi] 24)) := (Ext.refl h).push _
  (refine CallsH_of_exec Tryd.func28 rfl bod28 ?_; simp only [Tryd.ntmps28, Tryd.results28, coreS, stK_some, splice, Value.cells, Value.oneCell', Nat.reduceAdd, Nat.reduceSub, Nat.reduceMul, Nat.reduceLeDiff, Int.reduceEq, Nat.reduceEqDiff, H15Fs28])
  refine CallsH.mono (open56 m _ 1 1 [x] _ (hm.ext (x0.push _)) (intsV_one pn1) (by omega)) ?_
  rintro v h1 ⟨x1, h1'⟩
  have y1 := (x0.push _).trans x1
  rcases h1' with ⟨e0, b, rfl, ho, hbs⟩ | ⟨e0, rfl⟩
  · obtain ⟨i, rfl, hi, h16, gd⟩ := opn_in e0
    have eE : moE m i = if moV m i < 0 then 4 else 0 := by rw [moE, if_neg (by simpa using e0)]; rfl
    simp only [decide_true, Bool.not_true, coreS, Value.cells, Value.oneCell', Nat.reduceAdd, Nat.reduceSub, Nat.reduceMul, Nat.reduceLeDiff, Int.reduceEq, Nat.reduceEqDiff, H15Fs28]
    refine CallsH.mono (most68 m gd h16 b i hi h1 (hm.ext y1) ho) ?_
    rintro v h2 ⟨rfl, x2⟩
    by_cases hneg : moV m i < 0
    · rw [if_pos hneg] at eE
      have eW : moW m i = 0 := by rw [moW, if_neg (by omega)]
      rw [eE, eW]
      simp only [hneg, decide_true, coreS, Value.cells, Value.oneCell', Nat.reduceAdd, Nat.reduceSub, Nat.reduceMul, Nat.reduceLeDiff, Int.reduceEq, Nat.reduceEqDiff, H15Fs28]
      exact y1.trans x2
    · rw [if_neg hneg] at eE
      have eW : moW m i = moV m i := by rw [moW, if_pos eE]; rfl
      rw [eE, eW]
      simp only [hneg, decide_false, coreS, Value.cells, Value.oneCell', Nat.reduceAdd, Nat.reduceSub, Nat.reduceMul, Nat.reduceLeDiff, Int.reduceEq, Nat.reduceEqDiff, H15Fs28]
      exact y1.trans x2
  · have eE : moE m x = opn m [x] := by rw [moE, if_pos e0]
    have eW : moW m x = 0 := by rw [moW, if_neg (by rw [eE]; exact e0)]
    rw [eE, eW]
    simp only [e0, decide_false, Bool.not_false, coreS, Value.cells, Value.oneCell', Nat.reduceAdd, Nat.reduceSub, Nat.reduceMul, Nat.reduceLeDiff, Int.reduceEq, Nat.reduceEqDiff, H15Fs28]
    exact y1
end Go.Proofs.YtafemfjhflfdeaaDoor
end
section
namespace Go.Proofs.YtafemfjhflfdeaaDoor
open Go Go.Proofs Go.Eng Go.Run Tab
set_option maxRecDepth 100000
set_option linter.unusedSimpArgs false
set_option linter.unusedVariables false
set_option maxHeartbeats 4000000
set_option linter.defProp false
def H16Fs29 := (And.intro (And.intro (And.intro @agg24 @agg3) (And.intro @by3 @inf24)) (And.intro (And.intro @inf3 @sz24) (And.intro @sz3 @Tryd.underlying22)))
def H16Fs69 := (And.intro (And.intro (And.intro @agg22 (And.intro @agg24 @agg3)) (And.intro @by3 (And.intro @fo24_0 @inf22))) (And.intro (And.intro @inf24 (And.intro @inf3 @sz22)) (And.intro (And.intro @sz24 @sz3) (And.intro @zero3 @Tryd.underlying22))))
theorem app22 {h : Eng.Heap} {er : Env} {ty : TypeId} {m0 : Nat} {x y : Operand} {a b : Option Addr} {len cap m c : Nat} {xs ys : List Int} {K : Value → Eng.Heap → Prop} (hx : ev er x = .slice a len cap) (hy : ev er y = .slice b m c) (O : OwnI m0 h 3 a len cap xs) (h0h : m0 ≤ h.size) (I : IntsV h b m ys) (hb : len + m ≤ 100000)
    (H : ∀ a' cap' h', OwnI m0 h' 3 a' (len + m) cap' (xs ++ ys) → App h h' a a' → K (.slice a' (len + m) cap') h') : opSem Tryd.prog (.call ⟨.builtin .append, #[x, y], #[22, 22]⟩) ty er h K :=
  append_intsT Tryd.underlying22 Tryd.underlying22 inf3 sz3 (by rw [by3]; decide) zero3 hx hy O h0h I hb H
def moL (m : MV) (x : Nat) : List Int := (List.range x).map fun i => moV m i
theorem moL_succ (m : MV) (x : Nat) : moL m (x + 1) = moL m x ++ [moV m x] := by simp [moL, List.range_succ]
theorem moL_length (m : MV) (x : Nat) : (moL m x).length = x := by simp [moL]
theorem mostOf69 (m : MV) (gd : m.Good) (hn1 : 1 ≤ m.casts.length) (hn16 : m.casts.length ≤ 16) (h : Eng.Heap) (hm : m.ok h) :
    CallsH Tryd.prog 69 #[m.val] h (fun v h' => (∃ a c, v = .slice a m.casts.length c ∧ IntsV h' a m.casts.length (moL m m.casts.length)) ∧ Ext h h') := by
  have hb := push_new (h := h) (o := .cells #[.slice m.a m.casts.length m.ca, .slice m.b m.waits.length m.cb, .int .i64 m.lo, .int .i64 m.hi] 24)
  have x0 : Ext h (h.push (.cells #[.slice m.a m.casts.length m.ca, .slice m.b m.waits.length m.cb, .int .i64 m.lo, .int .i64 m.hi] 24)) := (Ext.refl h).push _
  have hval : Value.agg #[.slice m.a m.casts.length m.ca, .slice m.b m.waits.length m.cb, .int .i64 m.lo, .int .i64 m.hi] = m.val := rfl
  (refine CallsH_of_exec Tryd.func69 rfl bod69 ?_; simp only [Tryd.ntmps69, Tryd.results69, coreS, stK_some, splice, Value.cells, Value.oneCell', Nat.reduceAdd, Nat.reduceSub, Nat.reduceMul, Nat.reduceLeDiff, Int.reduceEq, Nat.reduceEqDiff, H16Fs69])
  have hs0 := x0.size
  obtain ⟨h0, hh0⟩ : ∃ h0, h0 = h.push (.cells #[.slice m.a m.casts.length m.ca, .slice m.b m.waits.length m.cb, .int .i64 m.lo, .int .i64 m.hi] 24) := ⟨_, rfl⟩
  rw [← hh0] at hb x0 ⊢
  clear hh0
  refine WP_loopI [4, 5, 6, 10, 11, 12, 13, 14, 15, 16, 17, 18, 19, 20, 21, 22, 23, 24, 25, 26, 27, 28, 29, 30, 31, 32, 33, 34, 35, 36, 37] (fun g h' => ∃ (i : Nat) (a : Option Addr) (cp : Nat), i ≤ m.casts.length ∧ g 5 = .int .i64 i ∧ g 4 = .slice a i cp ∧ OwnI h0.size h' 3 a i cp (moL m i) ∧ Ext h0 h') (fun g _ => match g 5 with | .int _ q => m.casts.length - q.toNat | _ => 0) ⟨0, none, 0, by omega, rfl, rfl, OwnI.nil _ _ _, Ext.refl _⟩ ?_
  rintro g h1 ⟨i, a, cp, hi, hg5, hg4, O1, x1⟩
  by_cases hin : i < m.casts.length
  · have hlt : (i : Int) < m.casts.length := by omega
    simp only [hg5, hg4, hlt, decide_true, coreS, Value.cells, Value.oneCell', Nat.reduceAdd, Nat.reduceSub, Nat.reduceMul, Nat.reduceLeDiff, Int.reduceEq, Nat.reduceEqDiff, H16Fs69]
    refine WP_loopI [6, 15, 16, 17, 18, 19, 20, 21, 22, 23, 24, 25, 26, 27, 28, 29, 30] (fun g2 h2 => ∃ c : Nat, c ≤ m.casts.length + 1 ∧ g2 6 = .int .i64 c ∧ (∀ j, j ≤ c → (m.ov.lw j (i, i)).isSome) ∧ Ext h1 h2) (fun g2 _ => match g2 6 with | .int _ q => m.casts.length + 1 - q.toNat | _ => 0) ⟨0, by omega, rfl, fun j hj => by rw [Nat.le_zero.1 hj]; rfl, Ext.refl _⟩ ?_
    rintro g2 h2 ⟨c, hc, hg6, hall, x2⟩
    have ec : (c : Int) + 1 = ((c + 1 : Nat) : Int) := by omega
    have b2 := x2.get (x1.get hb)
    by_cases hcn : c = m.casts.length + 1
    · have hcl : ¬ (c : Int) < m.casts.length + 1 := by omega
      have hgt : (m.casts.length : Int) < c := by omega
      have hmo := mo_end (m := m) (i := i) (fun j hj => hall j (by omega))
      simp only [hg6, hcl, hgt, b2, gd_none, decide_true, decide_false, splice, coreS, Value.cells, Value.oneCell', Nat.reduceAdd, Nat.reduceSub, Nat.reduceMul, Nat.reduceLeDiff, Int.reduceEq, Nat.reduceEqDiff, H16Fs69]
      refine ⟨by rw [inK_i64]; omega, ?_⟩
      refine app22 (h := h2.push (.cells #[.int .i64 (-1)] 3)) (m0 := h0.size) (len := i) (m := 1) (xs := moL m i) (ys := [-1]) (by rfl) (by rfl) ((O1.ext x2).ext ((Ext.refl _).push _)) (by have := (x1.trans x2).size; rw [Array.size_push]; omega) (intsV_one push_new) (by omega) fun a' cp' h4 O4 A4 => ?_
      rw [← hmo, ← moL_succ] at O4
      have x4 : Ext h0 h4 := A4.extN ((O1.ext x2).ext ((Ext.refl _).push (.cells #[.int .i64 (-1)] 3))) ((x1.trans x2).push _) (Nat.le_refl _)
      simp only [coreS, Value.cells, Value.oneCell', Nat.reduceAdd, Nat.reduceSub, Nat.reduceMul, Nat.reduceLeDiff, Int.reduceEq, Nat.reduceEqDiff, H16Fs69]
      refine ⟨by rw [inK_i64]; omega, roundK_mk (by kernel_rfl) ⟨i + 1, a', cp', by omega, rfl, rfl, O4, x4⟩ ?_⟩
      show m.casts.length - ((i : Int) + 1).toNat < m.casts.length - (i : Int).toNat
      omega
    · have hcl : (c : Int) < m.casts.length + 1 := by omega
      simp only [hg6, hcl, b2, gd_none, decide_true, splice, coreS, Value.cells, Value.oneCell', Nat.reduceAdd, Nat.reduceSub, Nat.reduceMul, Nat.reduceLeDiff, Int.reduceEq, Nat.reduceEqDiff, H16Fs69]
      rw [hval, ec]
      refine ⟨by rw [inK_i64]; omega, by rw [inK_i64]; omega, ?_⟩
      refine CallsH.mono (waits65 m gd hn1 hn16 (c + 1) (by omega) h2 (hm.ext ((x0.trans x1).trans x2))) ?_
      rintro v h3 ⟨bo, rfl, hbo, x3⟩
      have x23 := x2.trans x3
      simp only [hbo, vec_at m (c + 1) m.casts.length i hin, Int.toNat_natCast, coreS, Value.cells, Value.oneCell', Nat.reduceAdd, Nat.reduceSub, Nat.reduceMul, Nat.reduceLeDiff, Int.reduceEq, Nat.reduceEqDiff, H16Fs69]
      refine ⟨⟨by omega, by omega⟩, rfl, ?_⟩
      cases hl : m.ov.lw (c + 1) (i, i) with
      | none =>
        have hmo := mo_stop gd hin hall hl
        have hgt : ¬ (m.casts.length : Int) < c := by omega
        have hng : ¬ (0 : Int) ≤ -1 := by decide
        simp only [enc, hng, hgt, decide_false, splice, coreS, Value.cells, Value.oneCell', Nat.reduceAdd, Nat.reduceSub, Nat.reduceMul, Nat.reduceLeDiff, Int.reduceEq, Nat.reduceEqDiff, H16Fs69]
        refine app22 (h := h3.push (.cells #[.int .i64 ((c : Int))] 3)) (m0 := h0.size) (len := i) (m := 1) (xs := moL m i) (ys := [(c : Int)]) (by rfl) (by rfl) ((O1.ext x23).ext ((Ext.refl _).push _)) (by have := (x1.trans x23).size; rw [Array.size_push]; omega) (intsV_one push_new) (by omega) fun a' cp' h4 O4 A4 => ?_
        rw [← hmo, ← moL_succ] at O4
        have x4 : Ext h0 h4 := A4.extN ((O1.ext x23).ext ((Ext.refl _).push (.cells #[.int .i64 ((c : Int))] 3))) ((x1.trans x23).push _) (Nat.le_refl _)
        simp only [coreS, Value.cells, Value.oneCell', Nat.reduceAdd, Nat.reduceSub, Nat.reduceMul, Nat.reduceLeDiff, Int.reduceEq, Nat.reduceEqDiff, H16Fs69]
        refine ⟨by rw [inK_i64]; omega, roundK_mk (by kernel_rfl) ⟨i + 1, a', cp', by omega, rfl, rfl, O4, x4⟩ ?_⟩
        show m.casts.length - ((i : Int) + 1).toNat < m.casts.length - (i : Int).toNat
        omega
      | some y =>
        have hall' : ∀ j, j ≤ c + 1 → (m.ov.lw j (i, i)).isSome := fun j hj => by
          by_cases h : j = c + 1
          · subst h; rw [hl]; rfl
          · exact hall j (by omega)
        have hge : (0 : Int) ≤ (y : Int) := by omega
        simp only [enc, hge, decide_true, coreS, Value.cells, Value.oneCell', Nat.reduceAdd, Nat.reduceSub, Nat.reduceMul, Nat.reduceLeDiff, Int.reduceEq, Nat.reduceEqDiff, H16Fs69]
        refine ⟨by rw [inK_i64]; omega, roundK_mk (by kernel_rfl) ⟨c + 1, by omega, rfl, hall', x23⟩ ?_⟩
        show m.casts.length + 1 - ((c : Int) + 1).toNat < m.casts.length + 1 - (c : Int).toNat
        omega
  · have hlt : ¬ (i : Int) < m.casts.length := by omega
    obtain rfl : i = m.casts.length := by omega
    simp only [hg5, hg4, hlt, decide_false, coreS, Value.cells, Value.oneCell', Nat.reduceAdd, Nat.reduceSub, Nat.reduceMul, Nat.reduceLeDiff, Int.reduceEq, Nat.reduceEqDiff, H16Fs69]
    exact ⟨⟨a, cp, rfl, O1.ints⟩, x0.trans x1⟩
theorem moL_get (m : MV) (n i : Nat) (h : i < (moL m n).length) : (moL m n)[i] = moV m i := by simp [moL]
theorem most29 (m : MV) (x : Int) (h : Eng.Heap) (hm : m.ok h) :
    CallsH Tryd.prog 29 #[m.val, .int .i64 x] h (fun v h' => v = .tuple #[.int .i64 (moW m x), .int .i64 (moE m x)] ∧ Ext h h') := by
  have hb := push_new (h := h) (o := .cells #[.slice m.a m.casts.length m.ca, .slice m.b m.waits.length m.cb, .int .i64 m.lo, .int .i64 m.hi] 24)
  have x0 : Ext h (h.push (.cells #[.slice m.a m.casts.length m.ca, .slice m.b m.waits.length m.cb, .int .i64 m.lo, .int .i64 m.hi] 24)) := (Ext.refl h).push _
  have hval : Value.agg #[.slice m.a m.casts.length m.ca, .slice m.b m.waits.length m.cb, .int .i64 m.lo, .int .i64 m.hi] = m.val := rfl
  (refine CallsH_of_exec Tryd.func29 rfl bod29 ?_; simp only [Tryd.ntmps29, Tryd.results29, coreS, stK_some, splice, Value.cells, Value.oneCell', Nat.reduceAdd, Nat.reduceSub, Nat.reduceMul, Nat.reduceLeDiff, Int.reduceEq, Nat.reduceEqDiff, H16Fs29])
  refine CallsH.mono (isFrom60 m x _ (hm.ext x0)) ?_
  rintro v h1 ⟨rfl, x1⟩
  have y1 := x0.trans x1
  have b1 := x1.get hb
  by_cases e0 : opn m [x] = 0
  · obtain ⟨i, rfl, hi, h16, gd⟩ := opn_in e0
    have eE : moE m i = if moV m i < 0 then 4 else 0 := by rw [moE, if_neg (by simpa using e0)]; rfl
    simp only [e0, b1, decide_true, Bool.not_true, splice, coreS, Value.cells, Value.oneCell', Nat.reduceAdd, Nat.reduceSub, Nat.reduceMul, Nat.reduceLeDiff, Int.reduceEq, Nat.reduceEqDiff, H16Fs29]
    rw [hval]
    refine CallsH.mono (mostOf69 m gd (by omega) h16 h1 (hm.ext y1)) ?_
    rintro v h2 ⟨⟨a, cp, rfl, I⟩, x2⟩
    have hcell := I.cell (j := i) (by rw [moL_length]; exact hi)
    have hsm := I.isSome (by rw [moL_length]; omega)
    have hget : (moL m m.casts.length).getD i 0 = moV m i := by rw [List.getD_eq_getElem?_getD, List.getElem?_eq_getElem (by rw [moL_length]; exact hi), moL_get]; rfl
    rw [hget] at hcell
    simp only [hcell, Int.toNat_natCast, coreS, Value.cells, Value.oneCell', Nat.reduceAdd, Nat.reduceSub, Nat.reduceMul, Nat.reduceLeDiff, Int.reduceEq, Nat.reduceEqDiff, H16Fs29]
    refine ⟨⟨by omega, by omega⟩, hsm, ?_⟩
    by_cases hneg : moV m i < 0
    · rw [if_pos hneg] at eE
      have eW : moW m i = 0 := by rw [moW, if_neg (by omega)]
      rw [eE, eW]
      simp only [hneg, decide_true, coreS, Value.cells, Value.oneCell', Nat.reduceAdd, Nat.reduceSub, Nat.reduceMul, Nat.reduceLeDiff, Int.reduceEq, Nat.reduceEqDiff, H16Fs29]
      exact y1.trans x2
    · rw [if_neg hneg] at eE
      have eW : moW m i = moV m i := by rw [moW, if_pos eE]; rfl
      rw [eE, eW]
      simp only [hneg, decide_false, coreS, Value.cells, Value.oneCell', Nat.reduceAdd, Nat.reduceSub, Nat.reduceMul, Nat.reduceLeDiff, Int.reduceEq, Nat.reduceEqDiff, H16Fs29]
      exact y1.trans x2
  · have eE : moE m x = opn m [x] := by rw [moE, if_pos e0]
    have eW : moW m x = 0 := by rw [moW, if_neg (by rw [eE]; exact e0)]
    rw [eE, eW]
    simp only [e0, b1, decide_false, Bool.not_false, coreS, Value.cells, Value.oneCell', Nat.reduceAdd, Nat.reduceSub, Nat.reduceMul, Nat.reduceLeDiff, Int.reduceEq, Nat.reduceEqDiff, H16Fs29]
    rw [hval]
    refine CallsH.mono (isFrom60 m x h1 (hm.ext y1)) ?_
    rintro v h2 ⟨rfl, x2⟩
    simp only [coreS, Value.cells, Value.oneCell', Nat.reduceAdd, Nat.reduceSub, Nat.reduceMul, Nat.reduceLeDiff, Int.reduceEq, Nat.reduceEqDiff, H16Fs29]
    exact y1.trans x2
end Go.Proofs.YtafemfjhflfdeaaDoor
end
section
namespace Go.Proofs.YtafemfjhflfdeaaDoor
open Go Go.Proofs Go.Eng Go.Run Tab
set_option maxRecDepth 100000
set_option linter.unusedSimpArgs false
set_option linter.unusedVariables false
set_option linter.defProp false
set_option maxHeartbeats 4000000
set_option linter.defProp false
def H17Fs30 := (And.intro (And.intro (And.intro @agg22 (And.intro @agg24 @agg3)) (And.intro (And.intro @by3 @fo24_0) (And.intro @inf22 @inf24))) (And.intro (And.intro (And.intro @inf3 @sz22) (And.intro @sz24 @sz3)) (And.intro (And.intro @zero3 @zero97) (And.intro @Tryd.underlying22 @Tryd.underlying97))))
def H17Fs31 := (And.intro @agg24 (And.intro @inf24 @sz24))
def LabV (m : MV) (v : Value) (h : Eng.Heap) : Prop := (chk m = 0 ∧ ∃ a c, v = .tuple #[.slice a m.casts.length c, .int .i64 0] ∧ IntsV h a m.casts.length (moL m m.casts.length)) ∨ (chk m ≠ 0 ∧ v = .tuple #[.slice none 0 0, .int .i64 (chk m)])
theorem labels31 (m : MV) (h : Eng.Heap) (hm : m.ok h) : CallsH Tryd.prog 31 #[m.val] h (fun v h' => LabV m v h' ∧ Ext h h') := by
  have hb := push_new (h := h) (o := .cells #[.slice m.a m.casts.length m.ca, .slice m.b m.waits.length m.cb, .int .i64 m.lo, .int .i64 m.hi] 24)
  have x0 : Ext h (h.push (.cells #[.slice m.a m.casts.length m.ca, .slice m.b m.waits.length m.cb, .int .i64 m.lo, .int .i64 m.hi] 24)) := (Ext.refl h).push _
  have hval : Value.agg #[.slice m.a m.casts.length m.ca, .slice m.b m.waits.length m.cb, .int .i64 m.lo, .int .i64 m.hi] = m.val := rfl
  (refine CallsH_of_exec Tryd.func31 rfl bod31 ?_; simp only [Tryd.ntmps31, Tryd.results31, coreS, stK_some, splice, Value.cells, Value.oneCell', Nat.reduceAdd, Nat.reduceSub, Nat.reduceMul, Nat.reduceLeDiff, Int.reduceEq, Nat.reduceEqDiff, H17Fs31])
  refine CallsH.mono (chk23 m _ (hm.ext x0)) ?_
  rintro v h1 ⟨rfl, x1⟩
  have y1 := x0.trans x1
  have b1 := x1.get hb
  by_cases e0 : chk m = 0
  · have hp := chk_pos e0
    simp only [e0, b1, decide_true, Bool.not_true, coreS, Value.cells, Value.oneCell', Nat.reduceAdd, Nat.reduceSub, Nat.reduceMul, Nat.reduceLeDiff, Int.reduceEq, Nat.reduceEqDiff, H17Fs31]
    rw [hval]
    refine CallsH.mono (mostOf69 m (good_of e0) hp.1.1 hp.1.2 h1 (hm.ext y1)) ?_
    rintro v h2 ⟨⟨a, cp, rfl, I⟩, x2⟩
    simp only [coreS, Value.cells, Value.oneCell', Nat.reduceAdd, Nat.reduceSub, Nat.reduceMul, Nat.reduceLeDiff, Int.reduceEq, Nat.reduceEqDiff, H17Fs31]
    exact ⟨.inl ⟨e0, a, cp, rfl, I⟩, y1.trans x2⟩
  · simp only [e0, b1, decide_false, Bool.not_false, coreS, Value.cells, Value.oneCell', Nat.reduceAdd, Nat.reduceSub, Nat.reduceMul, Nat.reduceLeDiff, Int.reduceEq, Nat.reduceEqDiff, H17Fs31]
    rw [hval]
    refine CallsH.mono (chk23 m h1 (hm.ext y1)) ?_
    rintro v h2 ⟨rfl, x2⟩
    simp only [coreS, Value.cells, Value.oneCell', Nat.reduceAdd, Nat.reduceSub, Nat.reduceMul, Nat.reduceLeDiff, Int.reduceEq, Nat.reduceEqDiff, H17Fs31]
    exact ⟨.inr ⟨e0, rfl⟩, y1.trans x2⟩
theorem labels30 (m : MV) (h : Eng.Heap) (hm : m.ok h) : CallsH Tryd.prog 30 #[m.val] h (fun v h' => LabV m v h' ∧ Ext h h') := by
  have x0 : Ext h (h.push (.cells #[.slice m.a m.casts.length m.ca, .slice m.b m.waits.length m.cb, .int .i64 m.lo, .int .i64 m.hi] 24)) := (Ext.refl h).push _
  have hb := push_new (h := h) (o := .cells #[.slice m.a m.casts.length m.ca, .slice m.b m.waits.length m.cb, .int .i64 m.lo, .int .i64 m.hi] 24)
  have eO : opn m [] = chk m := by
    unfold opn
    split
    · rfl
    · rename_i h1; rw [Classical.not_not.1 h1]; rfl
  (refine CallsH_of_exec Tryd.func30 rfl bod30 ?_; simp only [Tryd.ntmps30, Tryd.results30, coreS, stK_some, splice, Value.cells, Value.oneCell', Nat.reduceAdd, Nat.reduceSub, Nat.reduceMul, Nat.reduceLeDiff, Int.reduceEq, Nat.reduceEqDiff, H17Fs30])
  refine CallsH.mono (open56 m none 0 0 [] _ (hm.ext x0) (IntsV.nil _) (by omega)) ?_
  rintro v h1 ⟨x1, h1'⟩
  have y1 := x0.trans x1
  have b1 := x1.get hb
  rw [eO] at h1'
  rcases h1' with ⟨e0, b, rfl, ho, hbs⟩ | ⟨e0, rfl⟩
  · have hp := chk_pos e0
    have gd := good_of e0
    have hop : m.casts.length ≤ 16 := hp.1.2
    simp only [e0, decide_true, Bool.not_true, splice, coreS, Value.cells, Value.oneCell', Nat.reduceAdd, Nat.reduceSub, Nat.reduceMul, Nat.reduceLeDiff, Int.reduceEq, Nat.reduceEqDiff, H17Fs30]
    refine ⟨by decide, by decide, by decide, by decide, ?_⟩
    refine clear_intsT (g := h1.size) (off := 0) (n := 16) (c := 16) (z := 0) (cur := Eng.ints (List.replicate 16 0)) Tryd.underlying22 zero3 (by rfl) push_new (by decide) fun h2 g2 u2 => ?_
    have e2 : Eng.splice (Eng.ints (List.replicate 16 0)) 0 (List.replicate 16 (.int .i64 0)) = Eng.ints (moL m 0 ++ List.replicate (16 - 0) 0) := by rfl
    rw [e2] at g2
    have y2 : Ext h h2 := (u2.ext (y1.push _) y1.size)
    have xo2 : Ext h1 h2 := u2.ext ((Ext.refl h1).push _) (Nat.le_refl _)
    simp only [xo2.get b1, coreS, Value.cells, Value.oneCell', Nat.reduceAdd, Nat.reduceSub, Nat.reduceMul, Nat.reduceLeDiff, Int.reduceEq, Nat.reduceEqDiff, H17Fs30]
    have hs1 := y1.size
    refine WP_loopI [7, 21, 22, 23, 24, 25, 26, 27, 28, 29] (fun g h3 => ∃ i : Nat, i ≤ m.casts.length ∧ g 21 = .int .i64 i ∧ h3[h1.size]? = some (.cells (ints (moL m i ++ List.replicate (16 - i) 0)).toArray 97) ∧ Ext h1 h3) (fun g _ => match g 21 with | .int _ q => m.casts.length - q.toNat | _ => 0) ⟨0, by omega, rfl, g2, xo2⟩ ?_
    rintro g h3 ⟨i, hi, hg, g3, x3⟩
    by_cases hin : i < m.casts.length
    · have hlt : (i : Int) < m.casts.length := by omega
      simp only [hg, hlt, decide_true, coreS, Value.cells, Value.oneCell', Nat.reduceAdd, Nat.reduceSub, Nat.reduceMul, Nat.reduceLeDiff, Int.reduceEq, Nat.reduceEqDiff, H17Fs30]
      refine CallsH.mono (most68 m gd hop b i hin h3 (hm.ext (y1.trans x3)) (x3.get ho)) ?_
      rintro v h4 ⟨rfl, x4⟩
      have g4 := x4.get g3
      simp only [g4, Int.toNat_natCast, coreS, Value.cells, Value.oneCell', Nat.reduceAdd, Nat.reduceSub, Nat.reduceMul, Nat.reduceLeDiff, Int.reduceEq, Nat.reduceEqDiff, H17Fs30]
      refine ⟨⟨by omega, by omega⟩, ?_⟩
      refine stK_int g4 (by rw [List.length_append, moL_length, List.length_replicate]; omega) fun h5 g5 u5 => ?_
      have e5 : (moL m i ++ List.replicate (16 - i) 0).set i (moV m i) = moL m (i + 1) ++ List.replicate (16 - (i + 1)) 0 := by
        rw [moL_succ, show 16 - i = (16 - (i + 1)) + 1 by omega, List.replicate_succ, List.append_assoc]
        have := set_mid (moL m i) (16 - (i + 1)) 0 (moV m i)
        rwa [moL_length] at this
      rw [e5] at g5
      simp only [coreS, Value.cells, Value.oneCell', Nat.reduceAdd, Nat.reduceSub, Nat.reduceMul, Nat.reduceLeDiff, Int.reduceEq, Nat.reduceEqDiff, H17Fs30]
      refine ⟨by rw [inK_i64]; omega, roundK_mk (by kernel_rfl) ⟨i + 1, by omega, rfl, g5, u5.ext (x3.trans x4) (Nat.le_refl _)⟩ ?_⟩
      show m.casts.length - ((i : Int) + 1).toNat < m.casts.length - (i : Int).toNat
      omega
    · have hlt : ¬ (i : Int) < m.casts.length := by omega
      obtain rfl : i = m.casts.length := by omega
      obtain ⟨n, hn⟩ : ∃ n, m.casts.length = n := ⟨_, rfl⟩
      simp only [hg, hlt, x3.get b1, decide_false, coreS, Value.cells, Value.oneCell', Nat.reduceAdd, Nat.reduceSub, Nat.reduceMul, Nat.reduceLeDiff, Int.reduceEq, Nat.reduceEqDiff, H17Fs30]
      refine ⟨by omega, by omega, by omega, by omega, by decide, by decide, by decide, by decide, ?_⟩
      refine copy_intsT (g := h3.size) (off := 0) (n := m.casts.length) (c := m.casts.length) (cur := Eng.ints (List.replicate m.casts.length 0)) (b := some ⟨h1.size, 0, none⟩) (m := 16) (c2 := 16) (ys := moL m m.casts.length ++ List.replicate (16 - m.casts.length) 0) Tryd.underlying22 Tryd.underlying22 inf3 sz3 (by rfl) (by rfl) (ct := 3) (by simp [Eng.ints]) (by rw [Eng.ints_length, List.length_replicate]; omega) ⟨by rw [List.length_append, moL_length, List.length_replicate]; omega, Row.block (((Ext.refl h3).push _).get g3)⟩ fun h4 g4 u4 => ?_
      have e4 : (moL m m.casts.length ++ List.replicate (16 - m.casts.length) 0).take m.casts.length = moL m m.casts.length := by
        rw [List.take_append_of_le_length (by rw [moL_length]; exact Nat.le_refl _), List.take_of_length_le (by rw [moL_length]; exact Nat.le_refl _)]
      rw [e4] at g4
      have y4 : Ext h h4 := u4.ext ((y1.trans x3).push _) (y1.trans x3).size
      simp only [coreS, Value.cells, Value.oneCell', Nat.reduceAdd, Nat.reduceSub, Nat.reduceMul, Nat.reduceLeDiff, Int.reduceEq, Nat.reduceEqDiff, H17Fs30]
      refine ⟨.inl ⟨e0, _, _, rfl, ⟨(moL_length _ _).symm ▸ rfl, ?_⟩⟩, y4⟩
      have h5 := Row.block g4
      have e6 : splice (Eng.ints (List.replicate m.casts.length 0)) 0 (ints (moL m m.casts.length)) = ints (moL m m.casts.length) := by
        rw [splice, List.take_zero, List.nil_append, List.drop_of_length_le (by rw [Eng.ints_length, Eng.ints_length, List.length_replicate, moL_length]; omega), List.append_nil]
      rwa [e6] at h5
  · simp only [e0, decide_false, Bool.not_false, coreS, Value.cells, Value.oneCell', Nat.reduceAdd, Nat.reduceSub, Nat.reduceMul, Nat.reduceLeDiff, Int.reduceEq, Nat.reduceEqDiff, H17Fs30]
    exact ⟨.inr ⟨e0, rfl⟩, y1⟩
end Go.Proofs.YtafemfjhflfdeaaDoor
end
section
namespace Go.Proofs.YtafemfjhflfdeaaDoor
open Go Go.Proofs Go.Eng Go.Run Tab
set_option maxRecDepth 100000
set_option linter.unusedSimpArgs false
set_option linter.unusedVariables false
set_option linter.defProp false
set_option maxHeartbeats 4000000
set_option linter.defProp false
def H18Fs32 := (And.intro (And.intro @agg3 @by3) (And.intro @inf3 (And.intro @sz3 @Tryd.underlying22)))
theorem ext_getD {xs ys : List Int} (hl : xs.length = ys.length) (H : ∀ i < xs.length, xs.getD i 0 = ys.getD i 0) : xs = ys := by
  apply List.ext_getElem hl
  intro i h1 h2
  have := H i h1
  simpa [List.getD, List.getElem?_eq_getElem h1, List.getElem?_eq_getElem h2] using this
theorem ints32 (a b : Option Addr) (n c m k : Nat) (xs ys : List Int) (h : Eng.Heap) (hx : IntsV h a n xs) (hy : IntsV h b m ys) (hl : n ≤ 1000000) (hm : m ≤ 1000000) :
    CallsH Tryd.prog 32 #[.slice a n c, .slice b m k] h (fun v h' => v = .bool (decide (xs = ys)) ∧ h' = h) := by
  have hn := hx.len
  have hn2 := hy.len
  (refine CallsH_of_exec Tryd.func32 rfl bod32 ?_; simp only [Tryd.ntmps32, Tryd.results32, coreS, stK_some, splice, Value.cells, Value.oneCell', Nat.reduceAdd, Nat.reduceSub, Nat.reduceMul, Nat.reduceLeDiff, Int.reduceEq, Nat.reduceEqDiff, H18Fs32])
  by_cases he : n = m
  · subst he
    simp only [decide_true, Bool.not_true, coreS, Value.cells, Value.oneCell', Nat.reduceAdd, Nat.reduceSub, Nat.reduceMul, Nat.reduceLeDiff, Int.reduceEq, Nat.reduceEqDiff, H18Fs32]
    refine WP_loopI [4, 5, 11, 12, 13, 14, 15, 16, 17, 18, 19, 20, 21, 22, 23, 24, 25] (fun g h' => h' = h ∧ ∃ i : Nat, i ≤ n ∧ g 5 = .int .i64 i ∧ ∀ j < i, xs.getD j 0 = ys.getD j 0) (fun g _ => match g 5 with | .int _ m => n - m.toNat | _ => 0) ⟨rfl, 0, by omega, rfl, fun j hj => by omega⟩ ?_
    rintro g h' ⟨rfl, i, hin, hg, hno⟩
    by_cases hi : i < n
    · simp only [hg, coreS, Value.cells, Value.oneCell', Nat.reduceAdd, Nat.reduceSub, Nat.reduceMul, Nat.reduceLeDiff, Int.reduceEq, Nat.reduceEqDiff, H18Fs32]
      refine ⟨fun _ => ?_, fun hge => absurd hge (by omega)⟩
      refine WP_draw (by kernel_rfl) sta_eq [(0, 0), (1, 0), (2, 0), (3, 0), (4, 0), (5, 0), (6, 0), (7, 0), (8, 0)] (by kernel_rfl) rfl (by kernel_rfl) ?_
      simp only [hg, hx.cell (j := i) (by omega), hy.cell (j := i) (by omega), Int.toNat_natCast, hvK_eq, coreS, Value.cells, Value.oneCell', Nat.reduceAdd, Nat.reduceSub, Nat.reduceMul, Nat.reduceLeDiff, Int.reduceEq, Nat.reduceEqDiff, drawS, H18Fs32]
      repeat (refine And.intro (by first | omega | (rw [inK_i64]; omega) | rfl | assumption | (exact hx.isSome (by omega)) | (exact hy.isSome (by omega))) ?_)
      by_cases hxy : xs.getD i 0 = ys.getD i 0
      · simp only [hxy, decide_true, Bool.not_true, coreS, Value.cells, Value.oneCell', Nat.reduceAdd, Nat.reduceSub, Nat.reduceMul, Nat.reduceLeDiff, Int.reduceEq, Nat.reduceEqDiff, H18Fs32]
        refine ⟨by rw [inK_i64]; omega, roundK_mk (by kernel_rfl) ⟨rfl, i + 1, by omega, rfl, fun j hj => ?_⟩ ?_⟩
        · by_cases hji : j = i
          · subst hji; exact hxy
          · exact hno j (by omega)
        · show n - ((i : Int) + 1).toNat < n - (i : Int).toNat
          omega
      · have hne : ¬ xs = ys := fun hh => hxy (by rw [hh])
        simp only [hxy, decide_false, Bool.not_false, coreS, Value.cells, Value.oneCell', Nat.reduceAdd, Nat.reduceSub, Nat.reduceMul, Nat.reduceLeDiff, Int.reduceEq, Nat.reduceEqDiff, H18Fs32]
        simp [hne]
    · have hxy : xs = ys := ext_getD (by omega) fun j hj => hno j (by omega)
      simp only [hg, coreS, Value.cells, Value.oneCell', Nat.reduceAdd, Nat.reduceSub, Nat.reduceMul, Nat.reduceLeDiff, Int.reduceEq, Nat.reduceEqDiff, H18Fs32]
      refine ⟨fun hlt => absurd hlt (by omega), fun _ => ?_⟩
      simp [hxy]
  · have hne : ¬ xs = ys := fun hh => he (by rw [hn, hn2, hh])
    have he2 : ¬ (n : Int) = m := by omega
    simp only [he2, decide_false, Bool.not_false, coreS, Value.cells, Value.oneCell', Nat.reduceAdd, Nat.reduceSub, Nat.reduceMul, Nat.reduceLeDiff, Int.reduceEq, Nat.reduceEqDiff, H18Fs32]
    simp [hne]
def badL (m : MV) (L : List Int) (i : Nat) : Prop := 0 ≤ L.getD i 0 ∧ ((L.getD (m.ov.w i) 0 < 0 ∨ L.getD i 0 < L.getD (m.ov.w i) 0) ∨ (m.ov.can (i, i) = true ∧ (L.getD (m.ov.c i) 0 < 0 ∨ L.getD i 0 ≤ L.getD (m.ov.c i) 0)))
end Go.Proofs.YtafemfjhflfdeaaDoor
end
section
namespace Go.Proofs.YtafemfjhflfdeaaDoor
open Go Go.Proofs Go.Eng Go.Run Tab
set_option maxRecDepth 100000
set_option linter.unusedSimpArgs false
set_option linter.unusedVariables false
set_option linter.defProp false
set_option maxHeartbeats 4000000
set_option linter.defProp false
def H19Fs34 := (And.intro (And.intro (And.intro @agg22 (And.intro @agg24 @agg3)) (And.intro @by3 (And.intro @fo24_0 @fo24_1))) (And.intro (And.intro @inf22 (And.intro @inf24 @inf3)) (And.intro (And.intro @sz22 @sz24) (And.intro @sz3 @Tryd.underlying22))))
instance (m : MV) (L : List Int) (i : Nat) : Decidable (badL m L i) := by unfold badL; infer_instance
def cklE (m : MV) (L : List Int) : Int := if chk m ≠ 0 then chk m else if L.length ≠ m.casts.length then 15 else if inB (-1) 30 L = false then 3 else if ∃ i < m.casts.length, badL m L i then 14 else 0
theorem inB_bad {lo hi : Int} {xs : List Int} {i : Nat} (hi' : i < xs.length) (h : xs.getD i 0 < lo ∨ hi < xs.getD i 0) : inB lo hi xs = false := by
  rw [Bool.eq_false_iff]
  intro hh
  have := inB_at hh hi'
  omega
theorem inB_all {lo hi : Int} {xs : List Int} (H : ∀ i, i < xs.length → lo ≤ xs.getD i 0 ∧ xs.getD i 0 ≤ hi) : inB lo hi xs = true := by
  simp only [inB, List.all_eq_true, Bool.and_eq_true, decide_eq_true_eq]
  intro x hx
  obtain ⟨j, hj, rfl⟩ := List.getElem_of_mem hx
  have := H j hj
  rw [List.getD, List.getElem?_eq_getElem hj] at this
  simpa using this
theorem ckl34 (m : MV) (a : Option Addr) (n c : Nat) (L : List Int) (h : Eng.Heap) (hm : m.ok h) (hv : IntsV h a n L) (hl : n ≤ 1000000) :
    CallsH Tryd.prog 34 #[m.val, .slice a n c] h (fun v h' => v = .int .i64 (cklE m L) ∧ Ext h h') := by
  have hb := push_new (h := h) (o := .cells #[.slice m.a m.casts.length m.ca, .slice m.b m.waits.length m.cb, .int .i64 m.lo, .int .i64 m.hi] 24)
  have x0 : Ext h (h.push (.cells #[.slice m.a m.casts.length m.ca, .slice m.b m.waits.length m.cb, .int .i64 m.lo, .int .i64 m.hi] 24)) := (Ext.refl h).push _
  have hln := hv.len
  have key : ∀ {p : Int} {q : Prop}, cklE m L = p → q → Value.int .i64 p = Value.int .i64 (cklE m L) ∧ q := fun h hq => ⟨by rw [h], hq⟩
  (refine CallsH_of_exec Tryd.func34 rfl bod34 ?_; simp only [Tryd.ntmps34, Tryd.results34, coreS, stK_some, splice, Value.cells, Value.oneCell', Nat.reduceAdd, Nat.reduceSub, Nat.reduceMul, Nat.reduceLeDiff, Int.reduceEq, Nat.reduceEqDiff, H19Fs34])
  refine CallsH.mono (chk23 m _ (hm.ext x0)) ?_
  rintro v h1 ⟨rfl, x1⟩
  have y1 := x0.trans x1
  have b1 := x1.get hb
  by_cases e0 : chk m = 0
  · have hp := chk_pos e0
    have gd := good_of e0
    have hv1 := hv.ext y1
    have hm1 := hm.ext y1
    simp only [e0, b1, decide_true, Bool.not_true, coreS, Value.cells, Value.oneCell', Nat.reduceAdd, Nat.reduceSub, Nat.reduceMul, Nat.reduceLeDiff, Int.reduceEq, Nat.reduceEqDiff, H19Fs34]
    refine ⟨fun hnn => ?_, fun hne => key (by unfold cklE; rw [if_neg (by omega), if_pos (by omega)]) y1⟩
    have hnn : n = m.casts.length := by omega
    refine WP_loopI [4, 5, 20, 21, 22, 23, 24, 25, 26, 27, 28, 29, 30, 31, 32, 33, 34, 35, 36, 37] (fun g h' => h' = h1 ∧ ∃ i : Nat, i ≤ n ∧ g 5 = .int .i64 i ∧ ∀ j < i, -1 ≤ L.getD j 0 ∧ L.getD j 0 ≤ 30) (fun g _ => match g 5 with | .int _ q => n - q.toNat | _ => 0) ⟨rfl, 0, by omega, rfl, fun j hj => by omega⟩ ?_
    rintro g hA ⟨rfl, i, hin, hg, hno⟩
    have s1 : i < n → a.isSome = true := fun h => hv1.isSome (by omega)
    have r3 : ∀ {P : Prop}, i < n → (L.getD i 0 < -1 ∨ 30 < L.getD i 0) → P → Value.int .i64 3 = Value.int .i64 (cklE m L) ∧ P := fun hi hh hP => key (by unfold cklE; rw [if_neg (by omega), if_neg (by omega), if_pos (inB_bad (by omega) hh)]) hP
    by_cases hi : i < n
    · simp only [hg, hv1.cell (j := i) (by omega), Int.toNat_natCast, coreS, Value.cells, Value.oneCell', Nat.reduceAdd, Nat.reduceSub, Nat.reduceMul, Nat.reduceLeDiff, Int.reduceEq, Nat.reduceEqDiff, H19Fs34]
      refine ⟨fun _ => ⟨⟨by omega, by omega⟩, s1 hi, fun g1 => r3 hi (.inl g1) y1, fun g1 => ⟨⟨by omega, by omega⟩, s1 hi, fun g2 => r3 hi (.inr g2) y1, fun g2 => ⟨by rw [inK_i64]; omega, roundK_mk (by kernel_rfl) ⟨rfl, i + 1, by omega, rfl, fun j hj => ?_⟩ ?_⟩⟩⟩, fun hc => absurd hc (by omega)⟩
      · by_cases hji : j = i
        · subst hji; omega
        · exact hno j (by omega)
      · show n - ((i : Int) + 1).toNat < n - (i : Int).toNat
        omega
    · obtain rfl : i = n := by omega
      have hin3 : inB (-1) 30 L = true := inB_all fun j hj => hno j (by omega)
      have eE : cklE m L = if ∃ i < m.casts.length, badL m L i then 14 else 0 := by unfold cklE; rw [if_neg (by omega), if_neg (by omega), if_neg (by simp [hin3])]
      simp only [hg, coreS, Value.cells, Value.oneCell', Nat.reduceAdd, Nat.reduceSub, Nat.reduceMul, Nat.reduceLeDiff, Int.reduceEq, Nat.reduceEqDiff, H19Fs34]
      refine ⟨fun hlt => absurd hlt (by omega), fun _ => ?_⟩
      refine WP_loopI [4, 6, 7, 8, 38, 39, 40, 41, 42, 43, 44, 45, 46, 47, 48, 49, 50, 51, 52, 53, 54, 55, 56, 57, 58, 59, 60, 61, 62, 63, 64, 65, 66, 67, 68, 69, 70, 71, 72, 73, 74, 75, 76, 77, 78, 79, 80, 81, 82, 83, 84, 85, 86, 87, 88, 89, 90, 91, 92, 93] (fun g h' => Ext hA h' ∧ ∃ q : Nat, q ≤ i ∧ g 6 = .int .i64 q ∧ ∀ j < q, ¬ badL m L j) (fun g _ => match g 6 with | .int _ q => i - q.toNat | _ => 0) ⟨Ext.refl _, 0, by omega, rfl, fun j hj => by omega⟩ ?_
      rintro g2 h2 ⟨x2, q, hq, hg2, hnb⟩
      have y2 := y1.trans x2
      have b2 := x2.get b1
      have hv2 := hv1.ext x2
      have hm2 := hm1.ext x2
      by_cases hqi : q < i
      · have hqn : q < m.casts.length := by omega
        have hcl : m.ov.c q < m.casts.length := gd.ok.cl q hqn
        have hwl : m.ov.w q < m.casts.length := by have := gd.ok.wg q hqn; omega
        have k1 := hv2.cell (j := q) (by omega)
        have k2 := hv2.cell (j := m.ov.w q) (by omega)
        have k3 := hv2.cell (j := m.ov.c q) (by omega)
        have k4 := hm2.w.cell (j := q) (by omega)
        have k5 := hm2.c.cell (j := q) (by omega)
        rw [gd.w q hqn] at k4
        rw [gd.c q hqn] at k5
        have sm := hm2.w.isSome (show 0 < m.waits.length by omega)
        have sc := hm2.c.isSome (show 0 < m.casts.length by omega)
        have sl := hv2.isSome (by omega)
        have hlt : (q : Int) < i := by omega
        have fin14 : ∀ {P : Prop}, badL m L q → P → Value.int .i64 14 = Value.int .i64 (cklE m L) ∧ P := fun hb hP => key (by rw [eE, if_pos ⟨q, hqn, hb⟩]) hP
        have ecan : m.ov.can (q, q) = (decide (m.lo ≤ (q : Int)) && decide ((q : Int) ≤ m.hi)) := by
          rw [OV.can, gd.lo, gd.hi]; simp only [Int.ofNat_le]
        have step : ¬ badL m L q → ∀ j < q + 1, ¬ badL m L j := fun hq' j hj => by
          by_cases hji : j = q
          · subst hji; exact hq'
          · exact hnb j (by omega)
        by_cases p1 : 0 ≤ L.getD q 0
        case neg =>
          simp only [hg2, hlt, decide_true, coreS, Value.cells, Value.oneCell', Nat.reduceAdd, Nat.reduceSub, Nat.reduceMul, Nat.reduceLeDiff, Int.reduceEq, Nat.reduceEqDiff, H19Fs34]
          refine WP_draw (by kernel_rfl) sta_eq [(0, 0), (1, 0), (2, 0), (3, 0), (4, 0), (5, 0), (6, 0), (7, 0), (8, 0), (9, 0), (10, 0), (11, 0), (12, 0), (13, 0), (14, 0), (15, 0), (16, 0), (17, 0)] (by kernel_rfl) rfl (by kernel_rfl) ?_
          simp only [p1, hg2, b2, k1, k2, k3, k4, k5, hlt, Int.toNat_natCast, hvK_eq, gd_none, gq_none, decide_true, decide_false, Bool.not_true, Bool.not_false, coreS, Value.cells, Value.oneCell', Nat.reduceAdd, Nat.reduceSub, Nat.reduceMul, Nat.reduceLeDiff, Int.reduceEq, Nat.reduceEqDiff, drawS, H19Fs34]
          repeat (refine And.intro (by first | omega | (rw [inK_i64]; omega) | rfl | assumption | (exact sm) | (exact sc) | (exact sl)) ?_)
          exact roundK_mk (by kernel_rfl) ⟨x2, q + 1, by omega, rfl, step fun hb => p1 hb.1⟩ (by show i - ((q : Int) + 1).toNat < i - (q : Int).toNat; omega)
        by_cases p2 : L.getD (m.ov.w q) 0 < 0
        case pos =>
          simp only [hg2, hlt, decide_true, coreS, Value.cells, Value.oneCell', Nat.reduceAdd, Nat.reduceSub, Nat.reduceMul, Nat.reduceLeDiff, Int.reduceEq, Nat.reduceEqDiff, H19Fs34]
          refine WP_draw (by kernel_rfl) sta_eq [(0, 0), (1, 0), (2, 0), (3, 0), (4, 0), (5, 0), (6, 0), (7, 0), (8, 0), (9, 0), (10, 0), (11, 0), (12, 0), (13, 0), (14, 0), (15, 0), (16, 0), (17, 0)] (by kernel_rfl) rfl (by kernel_rfl) ?_
          simp only [p1, p2, hg2, b2, k1, k2, k3, k4, k5, hlt, Int.toNat_natCast, hvK_eq, gd_none, gq_none, decide_true, decide_false, Bool.not_true, Bool.not_false, coreS, Value.cells, Value.oneCell', Nat.reduceAdd, Nat.reduceSub, Nat.reduceMul, Nat.reduceLeDiff, Int.reduceEq, Nat.reduceEqDiff, drawS, H19Fs34]
          repeat (refine And.intro (by first | omega | (rw [inK_i64]; omega) | rfl | assumption | (exact sm) | (exact sc) | (exact sl)) ?_)
          exact fin14 ⟨p1, .inl (.inl p2)⟩ y2
        by_cases p3 : L.getD q 0 < L.getD (m.ov.w q) 0
        case pos =>
          simp only [hg2, hlt, decide_true, coreS, Value.cells, Value.oneCell', Nat.reduceAdd, Nat.reduceSub, Nat.reduceMul, Nat.reduceLeDiff, Int.reduceEq, Nat.reduceEqDiff, H19Fs34]
          refine WP_draw (by kernel_rfl) sta_eq [(0, 0), (1, 0), (2, 0), (3, 0), (4, 0), (5, 0), (6, 0), (7, 0), (8, 0), (9, 0), (10, 0), (11, 0), (12, 0), (13, 0), (14, 0), (15, 0), (16, 0), (17, 0)] (by kernel_rfl) rfl (by kernel_rfl) ?_
          simp only [p1, p2, p3, hg2, b2, k1, k2, k3, k4, k5, hlt, Int.toNat_natCast, hvK_eq, gd_none, gq_none, decide_true, decide_false, Bool.not_true, Bool.not_false, coreS, Value.cells, Value.oneCell', Nat.reduceAdd, Nat.reduceSub, Nat.reduceMul, Nat.reduceLeDiff, Int.reduceEq, Nat.reduceEqDiff, drawS, H19Fs34]
          repeat (refine And.intro (by first | omega | (rw [inK_i64]; omega) | rfl | assumption | (exact sm) | (exact sc) | (exact sl)) ?_)
          exact fin14 ⟨p1, .inl (.inr p3)⟩ y2
        simp only [hg2, hlt, decide_true, coreS, Value.cells, Value.oneCell', Nat.reduceAdd, Nat.reduceSub, Nat.reduceMul, Nat.reduceLeDiff, Int.reduceEq, Nat.reduceEqDiff, H19Fs34]
        refine WP_draw (by kernel_rfl) sta_eq [(0, 0), (1, 0), (2, 0), (3, 0), (4, 0), (5, 0), (6, 0), (7, 0), (8, 0), (9, 0), (10, 0), (11, 0), (12, 0), (13, 0), (14, 0), (15, 0), (16, 0), (17, 0)] (by kernel_rfl) rfl (by kernel_rfl) ?_
        simp only [p1, p2, p3, hg2, b2, k1, k2, k3, k4, k5, hlt, Int.toNat_natCast, hvK_eq, gd_none, gq_none, decide_true, decide_false, Bool.not_true, Bool.not_false, coreS, Value.cells, Value.oneCell', Nat.reduceAdd, Nat.reduceSub, Nat.reduceMul, Nat.reduceLeDiff, Int.reduceEq, Nat.reduceEqDiff, drawS, H19Fs34]
        repeat (refine And.intro (by first | omega | (rw [inK_i64]; omega) | rfl | assumption | (exact sm) | (exact sc) | (exact sl)) ?_)
        refine CallsH.mono (can67 m q h2) ?_
        rintro v h3 ⟨rfl, x3⟩
        have y3 := y2.trans x3
        rw [← ecan]
        cases hcan : m.ov.can (q, q) with
        | false =>
          simp only [hg2, b2, k1, k2, k3, k4, k5, hlt, Int.toNat_natCast, hvK_eq, gd_none, gq_none, decide_true, decide_false, Bool.not_true, Bool.not_false, coreS, Value.cells, Value.oneCell', Nat.reduceAdd, Nat.reduceSub, Nat.reduceMul, Nat.reduceLeDiff, Int.reduceEq, Nat.reduceEqDiff, drawS, H19Fs34]
          repeat (refine And.intro (by first | omega | (rw [inK_i64]; omega) | rfl | assumption | (exact sm) | (exact sc) | (exact sl)) ?_)
          exact roundK_mk (by kernel_rfl) ⟨x2.trans x3, q + 1, by omega, rfl, step fun hb => by
            rcases hb.2 with (h | h) | h
            · exact p2 h
            · exact p3 h
            · rw [hcan] at h; exact Bool.noConfusion h.1⟩ (by show i - ((q : Int) + 1).toNat < i - (q : Int).toNat; omega)
        | true =>
          have k1' := hv2.ext x3 |>.cell (j := q) (by omega)
          by_cases p4 : L.getD (m.ov.c q) 0 < 0
          case pos =>
            simp only [p4, k1', hg2, b2, k1, k2, k3, k4, k5, hlt, Int.toNat_natCast, hvK_eq, gd_none, gq_none, decide_true, decide_false, Bool.not_true, Bool.not_false, coreS, Value.cells, Value.oneCell', Nat.reduceAdd, Nat.reduceSub, Nat.reduceMul, Nat.reduceLeDiff, Int.reduceEq, Nat.reduceEqDiff, drawS, H19Fs34]
            repeat (refine And.intro (by first | omega | (rw [inK_i64]; omega) | rfl | assumption | (exact sm) | (exact sc) | (exact sl)) ?_)
            exact fin14 ⟨p1, .inr ⟨hcan, .inl p4⟩⟩ y3
          by_cases p5 : L.getD q 0 ≤ L.getD (m.ov.c q) 0
          case pos =>
            simp only [p4, p5, k1', hg2, b2, k1, k2, k3, k4, k5, hlt, Int.toNat_natCast, hvK_eq, gd_none, gq_none, decide_true, decide_false, Bool.not_true, Bool.not_false, coreS, Value.cells, Value.oneCell', Nat.reduceAdd, Nat.reduceSub, Nat.reduceMul, Nat.reduceLeDiff, Int.reduceEq, Nat.reduceEqDiff, drawS, H19Fs34]
            repeat (refine And.intro (by first | omega | (rw [inK_i64]; omega) | rfl | assumption | (exact sm) | (exact sc) | (exact sl)) ?_)
            exact fin14 ⟨p1, .inr ⟨hcan, .inr p5⟩⟩ y3
          simp only [p4, p5, k1', hg2, b2, k1, k2, k3, k4, k5, hlt, Int.toNat_natCast, hvK_eq, gd_none, gq_none, decide_true, decide_false, Bool.not_true, Bool.not_false, coreS, Value.cells, Value.oneCell', Nat.reduceAdd, Nat.reduceSub, Nat.reduceMul, Nat.reduceLeDiff, Int.reduceEq, Nat.reduceEqDiff, drawS, H19Fs34]
          repeat (refine And.intro (by first | omega | (rw [inK_i64]; omega) | rfl | assumption | (exact sm) | (exact sc) | (exact sl)) ?_)
          exact roundK_mk (by kernel_rfl) ⟨x2.trans x3, q + 1, by omega, rfl, step fun hb => by
            rcases hb.2 with (h | h) | ⟨_, h | h⟩
            · exact p2 h
            · exact p3 h
            · exact p4 h
            · exact p5 h⟩ (by show i - ((q : Int) + 1).toNat < i - (q : Int).toNat; omega)
      · obtain rfl : q = i := by omega
        have hlt : ¬ (q : Int) < q := by omega
        simp only [hg2, hlt, decide_false, coreS, Value.cells, Value.oneCell', Nat.reduceAdd, Nat.reduceSub, Nat.reduceMul, Nat.reduceLeDiff, Int.reduceEq, Nat.reduceEqDiff, H19Fs34]
        refine key ?_ y2
        rw [eE, if_neg]
        rintro ⟨j, hj, hb⟩
        exact hnb j (by omega) hb
  · simp only [e0, b1, decide_false, Bool.not_false, coreS, Value.cells, Value.oneCell', Nat.reduceAdd, Nat.reduceSub, Nat.reduceMul, Nat.reduceLeDiff, Int.reduceEq, Nat.reduceEqDiff, H19Fs34]
    refine CallsH.mono (chk23 m h1 (hm.ext y1)) ?_
    rintro v h2 ⟨rfl, x2⟩
    simp only [coreS, Value.cells, Value.oneCell', Nat.reduceAdd, Nat.reduceSub, Nat.reduceMul, Nat.reduceLeDiff, Int.reduceEq, Nat.reduceEqDiff, H19Fs34]
    exact key (by unfold cklE; rw [if_pos e0]) (y1.trans x2)
end Go.Proofs.YtafemfjhflfdeaaDoor
end
section
set_option linter.unusedVariables false
set_option linter.unusedSimpArgs false
namespace Go.Eng
open Go
section yields
variable {P : Program} {l : Option Nat} {h : Heap} {e : Env} {d : List Deferred} {k : Cont}
def SeqOfE (P : Program) (v : Value) (F : Heap → Prop) (xss : List (List Value)) : Prop :=
  ∃ q first caps, v = .func (.func q) first caps ∧ ∀ (lo : Nat) (h0 : Heap) (J : Nat → Heap → Prop) (E : Heap → Prop), (∀ i h', J i h' → F h') → (∀ i h1 h2, J i h1 → Ext h1 h2 → J i h2) → J 0 h0 →
    (∀ i h' vs, xss[i]? = some vs → J i h' → CallY P (.func (.yield lo) #[] #[]) vs h' (fun v h'' => (v = .bool true ∧ J (i + 1) h'') ∨ (v = .bool false ∧ E h''))) →
    CallsH P q (first ++ #[.func (.yield lo) #[] #[]] ++ caps) h0 (fun _ h' => J xss.length h' ∨ E h')
theorem WP_rangeE {f : Operand} {ps : Array Tmp} {a b : Code} {v : Value} {F : Heap → Prop} {xss : List (List Value)} (hf : ev e f = v) (hseq : SeqOfE P v F xss) (Inv : Nat → Heap → Prop) (Br : Code → Heap → Prop)
    (hps : ∀ vs ∈ xss, vs.length = ps.size)
    (hext : ∀ i h', Inv i h' → F h')
    (hpush : ∀ i h1 h2, Inv i h1 → Ext h1 h2 → Inv i h2)
    (hupd : ∀ i h1 h2, Inv i h1 → Upd h1 h2 (h.size + 1) → Inv i h2) (bupd : ∀ j h1 h2, Br j h1 → Upd h1 h2 (h.size + 1) → Br j h2)
    (start : ∀ h', Ext h h' → h'[h.size]? = some (.deferred (some [])) → h'.size = h.size + 2 → Inv 0 h')
    (round : ∀ i h' vs o, xss[i]? = some vs → Inv i h' → h'[h.size + 1]? = some o → exec (some (h.size + 1)) P a (asgI P (h.size + 1) o b (Inv (i + 1)) Br) (binds ps.toList vs e) [] h')
    (fin : ∀ h', Inv xss.length h' → k .normal e (mkD h.size :: d) h')
    (brk : ∀ j h', Br j h' → exec none P j k e (mkD h.size :: d) h') : WP none P (.rangeFunc f ps a b) k e d h := by
  obtain ⟨q, first, caps, rfl, hq⟩ := hseq
  refine WP_range' hf ?_
  intro R R1 R2 R3 R4 R5 R6 R7
  have hsz : (h.push (.deferred (some []))).size = h.size + 1 := by simp
  refine CallsH.mono (hq (h.size + 1) _ (fun i h' => Inv i h' ∧ h'[h.size + 1]? = some (.loop R)) (fun h' => ∃ (rec : Loop) (j : Code), h'[h.size + 1]? = some (.loop rec) ∧ rec.state = .done ∧ rec.pending = some j ∧ Br j h') (fun i h' H => hext i h' H.1) (fun i h1 h2 H x => ⟨hpush _ _ _ H.1 x, x.get H.2⟩) ?_ ?_) ?_
  · refine ⟨start _ (((Ext.refl h).push _).push _) (push_old push_new) (by simp), ?_⟩
    have := push_new (h := h.push (.deferred (some []))) (o := .loop R)
    rwa [hsz] at this
  · rintro i h' vs hvs ⟨hI, hR⟩
    refine callY_yield hR (by rw [R4]; exact hps _ (List.mem_of_getElem? hvs)) ?_
    rw [R3, R4, R5, R6, List.toList_toArray]
    refine exec_mono a ?_ _ _ _ (round i h' vs _ hvs hI hR)
    rintro x e2 d2 h2 ⟨rfl, h2o, H⟩
    refine asgY_normal h2o R1 ?_
    refine exec_mono b ?_ _ _ _ (H _ _ Upd.set (set_get (lt_of_get h2o)))
    rintro x e3 d3 h3 ⟨h3o, H3⟩
    cases x with
    | normal =>
      refine ⟨_, h3o, ?_⟩
      refine .inl ⟨rfl, hupd _ _ _ H3 Upd.set, ?_⟩
      show (h3.setIfInBounds _ _)[_]? = _
      rw [set_get (lt_of_get h3o), Loop.back R1 R2]
    | ret =>
      refine ⟨_, h3o, ?_⟩
      exact .inr ⟨rfl, _, _, set_get (lt_of_get h3o), rfl, rfl, bupd _ _ _ H3 Upd.set⟩
    | exit j =>
      refine ⟨_, h3o, ?_⟩
      exact .inr ⟨rfl, _, _, set_get (lt_of_get h3o), rfl, rfl, bupd _ _ _ H3 Upd.set⟩
    | _ => exact H3.elim
  · rintro v h' (⟨hI, hR⟩ | ⟨rec, j, hR, hst, hpd, hB⟩)
    · refine ⟨_, hR, by rw [R1]; decide, ?_⟩
      rw [R2]
      exact fin _ (hupd _ _ _ hI Upd.set)
    · refine ⟨_, hR, by rw [hst]; decide, ?_⟩
      rw [hpd]
      exact brk _ _ (bupd _ _ _ hB Upd.set)
end yields
end Go.Eng
end
section
set_option linter.unusedVariables false
set_option linter.unusedSimpArgs false
namespace Go.Eng
open Go
section loopd
variable {l : Option Nat} {P : Program}
def roundD (e0 : Env) (ws : List Nat) (I : (Nat → Value) → List Deferred → Heap → Prop) (μ : (Nat → Value) → Heap → Nat) (n : Nat) (e : Env) (d : List Deferred) (h : Heap) : Prop :=
  e = mkE e0 ws (fun i => e.getD i undef) ∧ I (fun i => e.getD i undef) d h ∧ μ (fun i => e.getD i undef) h < n
theorem roundD_mk {e0 e : Env} {d : List Deferred} {ws : List Nat} {I : (Nat → Value) → List Deferred → Heap → Prop} {μ : (Nat → Value) → Heap → Nat} {n : Nat} {h : Heap}
    (h1 : e = mkE e0 ws (fun i => e.getD i undef)) (h2 : I (fun i => e.getD i undef) d h) (h3 : μ (fun i => e.getD i undef) h < n) : roundD e0 ws I μ n e d h := ⟨h1, h2, h3⟩
theorem WP_loopD {c : Code} {k : Cont} {e : Env} {d : List Deferred} {h : Heap} (ws : List Nat) (I : (Nat → Value) → List Deferred → Heap → Prop) (μ : (Nat → Value) → Heap → Nat)
    (h0 : I (fun i => e.getD i undef) d h)
    (round : ∀ g d' h', I g d' h' → exec l P c (thenK (roundD e ws I μ (μ g h')) k) (mkE e ws g) d' h') : WP l P (.loop c) k e d h := by
  unfold WP
  intro w hw
  refine wpIn_loop (fun a w' => (a.tmps.toList = mkE e ws (fun i => a.tmps.toList.getD i undef) ∧ I (fun i => a.tmps.toList.getD i undef) a.defers w'.heap) ∧ Rest w w')
    (fun a w' => μ (fun i => a.tmps.toList.getD i undef) w'.heap) ⟨⟨by rw [mkE_self], by subst hw; simpa using h0⟩, Rest.refl w⟩ ?_
  rintro a w' ⟨⟨he', hI⟩, hr⟩
  have h1 := round _ _ w'.heap hI
  rw [← he'] at h1
  have h1 := exec_sound _ _ _ _ _ h1
  unfold WP at h1
  have h1 := h1 w' rfl
  rw [toList_act] at h1
  refine wpIn_mono h1 ?_
  rintro x a' w'' ⟨hq, hr'⟩
  cases x with
  | normal =>
    unfold thenK at hq
    obtain ⟨q1, q2, q3⟩ := hq
    exact ⟨⟨⟨q1, q2⟩, hr.trans hr'⟩, q3⟩
  | _ => unfold thenK at hq; exact ⟨hq, hr.trans hr'⟩
attribute [irreducible] roundD
def Marks (m0 m1 : Nat) (h : Heap) (d : List Deferred) : Prop := ∃ rs : List Nat, d = rs.map mkD ∧ rs.Nodup ∧ ∀ r ∈ rs, m0 ≤ r ∧ r < m1 ∧ h[r]? = some (.deferred (some []))
theorem Marks.nil (m0 m1 : Nat) (h : Heap) : Marks m0 m1 h [] := ⟨[], rfl, List.nodup_nil, by simp⟩
theorem Marks.keep {m0 m1 : Nat} {h h' : Heap} {d : List Deferred} (M : Marks m0 m1 h d) (hk : ∀ r, m0 ≤ r → r < m1 → ∀ o, h[r]? = some o → h'[r]? = some o) : Marks m0 m1 h' d := by
  obtain ⟨rs, h1, h2, h3⟩ := M
  exact ⟨rs, h1, h2, fun r hr => ⟨(h3 r hr).1, (h3 r hr).2.1, hk r (h3 r hr).1 (h3 r hr).2.1 _ (h3 r hr).2.2⟩⟩
theorem Marks.ext {m0 m1 : Nat} {h h' : Heap} {d : List Deferred} (M : Marks m0 m1 h d) (x : Ext h h') : Marks m0 m1 h' d := M.keep fun _ _ _ _ ho => x.get ho
theorem Marks.upd {m0 m1 b : Nat} {h h' : Heap} {d : List Deferred} (M : Marks m0 m1 h d) (u : Upd h h' b) (hb : b < m0 ∨ m1 ≤ b) : Marks m0 m1 h' d := M.keep fun r h1 h2 _ ho => u.get ho (by omega)
theorem Marks.mono {m0 m1 m2 : Nat} {h : Heap} {d : List Deferred} (M : Marks m0 m1 h d) (hm : m1 ≤ m2) : Marks m0 m2 h d := by
  obtain ⟨rs, h1, h2, h3⟩ := M
  exact ⟨rs, h1, h2, fun r hr => ⟨(h3 r hr).1, Nat.lt_of_lt_of_le (h3 r hr).2.1 hm, (h3 r hr).2.2⟩⟩
theorem Marks.cons {m0 m1 m2 r : Nat} {h : Heap} {d : List Deferred} (M : Marks m0 m1 h d) (hr : h[r]? = some (.deferred (some []))) (h0 : m0 ≤ r) (h1 : m1 ≤ r) (h2 : r < m2) : Marks m0 m2 h (mkD r :: d) := by
  obtain ⟨rs, h3, h4, h5⟩ := M
  refine ⟨r :: rs, by rw [h3]; rfl, List.nodup_cons.2 ⟨fun hm => ?_, h4⟩, fun q hq => ?_⟩
  · have := (h5 r hm).2.1; omega
  · rcases List.mem_cons.1 hq with rfl | hq
    · exact ⟨h0, h2, hr⟩
    · have := h5 q hq; exact ⟨this.1, by omega, this.2.2⟩
theorem fin_marks {rs : List ResultVar} {K : Value → Heap → Prop} {e : Env} {m0 m1 : Nat} {h : Heap} {d : List Deferred} (M : Marks m0 m1 h d)
    (H : ∀ h', h'.size = h.size → (∀ b, (b < m0 ∨ m1 ≤ b) → h'[b]? = h[b]?) → resA P rs e [] K h') : finW P rs e d h K := by
  obtain ⟨ls, rfl, hnd, hls⟩ := M
  unfold finW
  have key : ∀ (ls : List Nat) (h : Heap), ls.Nodup → (∀ r ∈ ls, m0 ≤ r ∧ r < m1 ∧ h[r]? = some (.deferred (some []))) → Marked h (ls.map mkD) ∧ (unmark h (ls.map mkD)).size = h.size ∧ ∀ b, (b < m0 ∨ m1 ≤ b) → (unmark h (ls.map mkD))[b]? = h[b]? := by
    intro ls
    induction ls with
    | nil => intro h _ _; exact ⟨trivial, rfl, fun _ _ => rfl⟩
    | cons r ls ih =>
      intro h hnd hls
      have hr := hls r List.mem_cons_self
      have h2 := List.nodup_cons.1 hnd
      have := ih (h.setIfInBounds r (.deferred none)) h2.2 (fun q hq => by
        have h3 := hls q (List.mem_cons_of_mem _ hq)
        exact ⟨h3.1, h3.2.1, by
          have hne : r ≠ q := fun he => h2.1 (by rw [he]; exact hq)
          rw [Array.getElem?_setIfInBounds_ne hne]; exact h3.2.2⟩)
      refine ⟨⟨r, rfl, hr.2.2, this.1⟩, ?_, fun b hb => ?_⟩
      · show (unmark (h.setIfInBounds r (.deferred none)) (ls.map mkD)).size = _
        rw [this.2.1]; simp
      · show (unmark (h.setIfInBounds r (.deferred none)) (ls.map mkD))[b]? = _
        rw [this.2.2 b hb, Array.getElem?_setIfInBounds_ne (by omega)]
  have := key ls h hnd hls
  exact ⟨this.1, H _ this.2.1 this.2.2⟩
end loopd
end Go.Eng
end
