/- The walk of TurnLast. -/
import Derived.Test.YtoediaepoddonaaL2
import Derived.Test.YtoediaepoddonaaWork
namespace Go.Proofs.Ytoediaepoddonaa
open Go Go.Proofs Go.Eng Tab
set_option maxRecDepth 100000
set_option linter.unusedSimpArgs false
set_option linter.unusedVariables false
set_option maxHeartbeats 1000000
theorem works18 (h : Heap) : CallsH Try.prog 18 #[] h (fun v h' => v = .bool true ∧ Ext h h') := Go.Run.says_run Pt.ok Pt.lb says18 h
theorem openE_ok {n s : Int} (h1 : 1 ≤ n) (h2 : n ≤ 12) (h3 : 1 ≤ s) (h4 : s ≤ 1099511627776) : openE n [s] = 0 := by
  have a1 : ¬ s < 1 := by omega
  have a2 : ¬ 1099511627776 < s := by omega
  simp [openE, h1, h2, a1, a2]
/-- When a shop leaves, by its place. -/
theorem when_at (n k : Nat) (s : Int) (h : Heap) (h1 : 1 ≤ n) (h2 : n ≤ 12) (h3 : 1 ≤ s) (h4 : s ≤ 1099511627776) (hk : k < n) :
    CallsH Try.prog 30 #[.int .i64 n, .int .i64 s, .int .i64 ((zs (roundL n s)).getD k 0)] h (fun v h' => v = .tuple #[.int .i64 k, .int .i64 0] ∧ Ext h h') := by
  refine CallsH.mono (when30 ..) ?_
  rintro v h' ⟨hx, w, e, rfl, hw⟩
  have ho := isOrd_perm (round_perm n s)
  have o := openE_ok (n := n) (by omega) (by omega) h3 h4
  have := ho.2 k hk
  rcases hw with ⟨q, _⟩ | ⟨_, q, _⟩ | ⟨_, _, rfl, rfl⟩
  · exact absurd o q
  · exact absurd ⟨this.1, this.2.1⟩ q
  · rw [Int.toNat_natCast, idx_ord ho hk]
    exact ⟨rfl, hx⟩
theorem turnLast10 (a b c : Int) (h : Heap) (ha : 0 ≤ a ∧ a ≤ 255) (hb : 0 ≤ b ∧ b ≤ 4294967295) (hc : 0 ≤ c ∧ c ≤ 255) :
    CallsH Try.prog 10 #[.int .u8 a, .int .u32 b, .int .u8 c] h (fun v h' => v = .bool true ∧ Ext h h') := by
  refine CallsH_of_exec Try.func10 rfl bod10 ?_
  simp only [Try.ntmps10, Try.results10, coreS, stK_some, splice, Value.cells, Value.oneCell', Nat.reduceAdd, Nat.reduceSub, Nat.reduceMul, Nat.reduceLeDiff, Int.reduceEq, Nat.reduceEqDiff, agg3, by3, inf3, sz3, Try.underlying2, Try.underlying3, Try.underlying5, Try.underlying22, Try.underlying47]
  obtain ⟨n, hn⟩ : ∃ n : Nat, 1 + a % 11 = n := ⟨(1 + a % 11).toNat, by omega⟩
  have e1 : 1 + a.tmod 11 = n := by rw [Int.tmod_eq_emod_of_nonneg ha.1]; exact hn
  rw [e1]
  obtain ⟨s, hs⟩ : ∃ s : Int, s = b + 1 := ⟨_, rfl⟩
  rw [← hs]
  refine ⟨by rw [inK_i64]; omega, by omega, by rw [inK_i64]; omega, by rw [inK_i64]; omega, by rw [inK_i64]; omega, ?_⟩
  have o1 : openE (n : Int) [s] = 0 := openE_ok (by omega) (by omega) (by omega) (by omega)
  have e2 : (n : Int) + 1 = ((n + 1 : Nat) : Int) := by omega
  have o2 : openE ((n + 1 : Nat) : Int) [s] = 0 := openE_ok (by omega) (by omega) (by omega) (by omega)
  refine CallsH.mono (last28 n s _) ?_
  rintro v h1 ⟨rfl, hx1⟩
  simp only [o1, e2, Int.toNat_natCast, coreS, Value.cells, Value.oneCell', Nat.reduceAdd, Nat.reduceSub, Nat.reduceMul, Nat.reduceLeDiff, Int.reduceEq, Nat.reduceEqDiff, agg3, by3, inf3, sz3, Try.underlying2, Try.underlying3, Try.underlying5, Try.underlying22, Try.underlying47]
  refine ⟨by rw [inK_i64]; omega, ?_⟩
  refine CallsH.mono (last28 ((n + 1 : Nat) : Int) s _) ?_
  rintro v h2 ⟨rfl, hx2⟩
  replace hx2 := hx1.trans hx2
  simp only [o2, e2, Int.toNat_natCast, coreS, Value.cells, Value.oneCell', Nat.reduceAdd, Nat.reduceSub, Nat.reduceMul, Nat.reduceLeDiff, Int.reduceEq, Nat.reduceEqDiff, agg3, by3, inf3, sz3, Try.underlying2, Try.underlying3, Try.underlying5, Try.underlying22, Try.underlying47]
  refine ⟨by rw [inK_i64]; omega, ?_⟩
  have hl : lastF s (n + 1) = (zs (roundL (n + 1) s)).getD n 0 := (round_last n s).symm
  have hwn := when_at (n + 1) n s h2 (by omega) (by omega) (by omega) (by omega) (by omega)
  rw [← hl] at hwn
  refine CallsH.mono hwn ?_
  rintro v h3 ⟨rfl, hx3⟩
  replace hx3 := hx2.trans hx3
  simp only [e2, coreS, Value.cells, Value.oneCell', Nat.reduceAdd, Nat.reduceSub, Nat.reduceMul, Nat.reduceLeDiff, Int.reduceEq, Nat.reduceEqDiff, agg3, by3, inf3, sz3, Try.underlying2, Try.underlying3, Try.underlying5, Try.underlying22, Try.underlying47]
  refine ⟨by rw [inK_i64]; omega, by rw [inK_i64]; omega, by omega, by rw [inK_i64]; omega, ?_⟩
  obtain ⟨i, hi⟩ : ∃ i : Nat, c % ((n + 1 : Nat) : Int) = i := ⟨(c % ((n + 1 : Nat) : Int)).toNat, by have := Int.emod_nonneg c (show ((n + 1 : Nat) : Int) ≠ 0 by omega); omega⟩
  have hi2 : i < n + 1 := by have := Int.emod_lt_of_pos c (show (0 : Int) < ((n + 1 : Nat) : Int) by omega); omega
  rw [Int.tmod_eq_emod_of_nonneg hc.1, hi]
  obtain ⟨k, hk, hki⟩ := ord_has (round_perm (n + 1) s) hi2
  have hwk := when_at (n + 1) k s h3 (by omega) (by omega) (by omega) (by omega) hk
  rw [hki] at hwk
  refine CallsH.mono hwk ?_
  rintro v h4 ⟨rfl, hx4⟩
  replace hx4 := hx3.trans hx4
  simp only [e2, coreS, Value.cells, Value.oneCell', Nat.reduceAdd, Nat.reduceSub, Nat.reduceMul, Nat.reduceLeDiff, Int.reduceEq, Nat.reduceEqDiff, agg3, by3, inf3, sz3, Try.underlying2, Try.underlying3, Try.underlying5, Try.underlying22, Try.underlying47]
  refine ⟨by rw [inK_i64]; omega, ?_⟩
  refine CallsH.mono (round26 _ _ _) ?_
  rintro v h5 ⟨hx5, ⟨q, _⟩ | ⟨_, bo, rfl, hbo2, hbo⟩⟩
  · exact absurd o2 q
  replace hx5 := hx4.trans hx5
  have hr1 := lastF_range s n
  have hr2 := hr1.2 (by omega)
  have t1 : ¬ lastF s n < 0 := by omega
  have t2 : ¬ (n : Int) ≤ lastF s n := by omega
  simp only [e2, t1, t2, Int.toNat_natCast, coreS, Value.cells, Value.oneCell', Nat.reduceAdd, Nat.reduceSub, Nat.reduceMul, Nat.reduceLeDiff, Int.reduceEq, Nat.reduceEqDiff, agg3, by3, inf3, sz3, Try.underlying2, Try.underlying3, Try.underlying5, Try.underlying22, Try.underlying47]
  refine ⟨by rw [inK_i64]; omega, ?_⟩
  rw [Int.toNat_natCast] at hbo
  have hv : IntsV h5 (some ⟨bo, 0, none⟩) (n + 1) (zs (roundL (n + 1) s)) := by
    have := IntsV.block hbo
    rw [zs_length, roundL_length] at this
    exact this
  refine CallsH.mono (isOrder46 _ (n + 1) _ _ _ hv (by omega) (Nat.le_refl _) (isOrd_perm (round_perm (n + 1) s))) ?_
  rintro v h6 ⟨rfl, rfl⟩
  have t3 : (lastF s (n + 1) = (lastF s n + s) % ((n + 1 : Nat) : Int)) = True := eq_true rfl
  have hcell := ints_getElem? (zs (roundL (n + 1) s)) k (by rw [zs_length, roundL_length]; exact hk)
  rw [hki] at hcell
  have t4 : (lastF s n + s).tmod ((n + 1 : Nat) : Int) = lastF s (n + 1) := by rw [Int.tmod_eq_emod_of_nonneg (by omega)]; rfl
  have t5 : (0 : Int) ≤ k := by omega
  have t6 : (k : Int) ≤ n := by omega
  simp only [e2, coreS, Value.cells, Value.oneCell', Nat.reduceAdd, Nat.reduceSub, Nat.reduceMul, Nat.reduceLeDiff, Int.reduceEq, Nat.reduceEqDiff, agg3, by3, inf3, sz3, Try.underlying2, Try.underlying3, Try.underlying5, Try.underlying22, Try.underlying47]
  refine ⟨by rw [inK_i64]; omega, by rw [inK_i64]; omega, by omega, ?_⟩
  simp only [t4, t5, t6, hbo, hcell, coreS, Value.cells, Value.oneCell', Nat.reduceAdd, Nat.reduceSub, Nat.reduceMul, Nat.reduceLeDiff, Int.reduceEq, Nat.reduceEqDiff, agg3, by3, inf3, sz3, Try.underlying2, Try.underlying3, Try.underlying5, Try.underlying22, Try.underlying47]
  refine ⟨by omega, rfl, ?_⟩
  refine CallsH.mono (works18 _) ?_
  rintro v h7 ⟨rfl, hx7⟩
  simp only [coreS, Value.cells, Value.oneCell', Nat.reduceAdd, Nat.reduceSub, Nat.reduceMul, Nat.reduceLeDiff, Int.reduceEq, Nat.reduceEqDiff, agg3, by3, inf3, sz3, Try.underlying2, Try.underlying3, Try.underlying5, Try.underlying22, Try.underlying47]
  exact hx5.trans hx7
end Go.Proofs.Ytoediaepoddonaa
