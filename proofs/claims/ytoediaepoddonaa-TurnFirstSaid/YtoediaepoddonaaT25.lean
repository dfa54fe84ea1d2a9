/- Walk: TurnFirst. -/
import Derived.Test.YtoediaepoddonaaT24
namespace Go.Proofs.Ytoediaepoddonaa
open Go Go.Proofs Go.Eng Go.Run Tab
set_option maxRecDepth 100000
set_option linter.unusedSimpArgs false
set_option linter.unusedVariables false
set_option maxHeartbeats 1000000
theorem round_first (n : Nat) (hn : n ≤ 12) : roundL n 1 = List.range n := by
  have : ∀ n < 13, roundL n 1 = List.range n := by decide +kernel
  exact this n (by omega)
theorem numN_first (n : Nat) (hn : n ≤ 12) : numN n (List.range n) = 0 := by
  have : ∀ n < 13, numN n (List.range n) = 0 := by decide +kernel
  exact this n (by omega)
theorem round_head (n k : Nat) (hn : n ≤ 12) (hk : k < n) : (zs (roundL n ((k : Int) + 1))).getD 0 0 = k := by
  have : ∀ n < 13, ∀ k < n, (zs (roundL n ((k : Int) + 1))).getD 0 0 = k := by decide +kernel
  exact this n (by omega) k hk
theorem turnFirst15 (a b : Int) (h : Eng.Heap) (ha : 0 ≤ a ∧ a ≤ 255) (hb : 0 ≤ b ∧ b ≤ 255) :
    CallsH Try.prog 15 #[.int .u8 a, .int .u8 b] h (fun v h' => v = .bool true ∧ Ext h h') := by
  refine CallsH_of_exec Try.func15 rfl bod15 ?_
  simp only [Try.ntmps15, Try.results15, coreS, stK_some, splice, Value.cells, Value.oneCell', Nat.reduceAdd, Nat.reduceSub, Nat.reduceMul, Nat.reduceLeDiff, Int.reduceEq, Nat.reduceEqDiff, Try.underlying2, Try.underlying3, Try.underlying5]
  refine CallsH.mono (shops44 a _ ha.1 ha.2) ?_
  rintro v h1 ⟨rfl, rfl⟩
  obtain ⟨n, hn⟩ : ∃ n : Nat, 1 + a % 12 = n := ⟨(1 + a % 12).toNat, by omega⟩
  rw [hn]
  have hn1 : 1 ≤ n ∧ n ≤ 12 := by omega
  have o1 : openE (n : Int) [1] = 0 := openE_ok (by omega) (by omega) (by omega) (by omega)
  simp only [coreS, Value.cells, Value.oneCell', Nat.reduceAdd, Nat.reduceSub, Nat.reduceMul, Nat.reduceLeDiff, Int.reduceEq, Nat.reduceEqDiff, Try.underlying2, Try.underlying3, Try.underlying5]
  refine CallsH.mono (roundP26 n 1 _) ?_
  rintro v h2 ⟨x2, a2, k2, c2, rfl, _, l2, I2⟩
  rw [roundZ_ok o1, Int.toNat_natCast, round_first n hn1.2] at I2
  have e2 := I2.len
  rw [zs_length, List.length_range] at e2
  subst e2
  simp only [coreS, Value.cells, Value.oneCell', Nat.reduceAdd, Nat.reduceSub, Nat.reduceMul, Nat.reduceLeDiff, Int.reduceEq, Nat.reduceEqDiff, Try.underlying2, Try.underlying3, Try.underlying5]
  refine CallsH.mono (period47 k2 k2 _ hn1.2 (Nat.le_refl _)) ?_
  rintro v h3 ⟨rfl, rfl⟩
  have hp := perF_le k2 k2 hn1.2 (Nat.le_refl _)
  obtain ⟨m, rfl⟩ : ∃ m : Nat, b = m := ⟨b.toNat, by omega⟩
  have hpm : perF k2 k2 * m ≤ 27720 * 255 := Nat.mul_le_mul hp.1 (by omega)
  have em : (perF k2 k2 : Int) * (m : Int) = ((perF k2 k2 * m : Nat) : Int) := by push_cast; rfl
  simp only [em, coreS, Value.cells, Value.oneCell', Nat.reduceAdd, Nat.reduceSub, Nat.reduceMul, Nat.reduceLeDiff, Int.reduceEq, Nat.reduceEqDiff, Try.underlying2, Try.underlying3, Try.underlying5]
  repeat (refine And.intro (by first | omega | (rw [inK_i64]; omega) | rfl | assumption) ?_)
  have o2 : openE (k2 : Int) [1 + ((perF k2 k2 * m : Nat) : Int)] = 0 := openE_ok (by omega) (by omega) (by omega) (by omega)
  refine CallsH.mono (roundP26 k2 (1 + ((perF k2 k2 * m : Nat) : Int)) _) ?_
  rintro v h4 ⟨x4, a4, k4, c4, rfl, _, l4, I4⟩
  have hr : roundL k2 (1 + ((perF k2 k2 * m : Nat) : Int)) = List.range k2 := by
    rw [← round_first k2 hn1.2, round_eq_iff hn1.2 (by omega) (by omega)]
    have : 1 + ((perF k2 k2 * m : Nat) : Int) - 1 = (perF k2 k2 : Int) * (m : Int) := by rw [em]; omega
    rw [this, Int.mul_emod_right]
  rw [roundZ_ok o2, Int.toNat_natCast, hr] at I4
  have e4 := I4.len
  rw [zs_length, List.length_range] at e4
  subst e4
  obtain ⟨s, hs⟩ : ∃ s : Nat, s = m % k4 := ⟨_, rfl⟩
  have hsk : s < k4 := by rw [hs]; exact Nat.mod_lt _ (by omega)
  have es : (m : Int).tmod (k4 : Int) = (s : Int) := by rw [mod_int, hs]
  have es2 : 1 + (s : Int) = (s : Int) + 1 := by omega
  have es3 : (s : Int) + 1 - 1 = (s : Int) := by omega
  simp only [es, es2, es3, coreS, Value.cells, Value.oneCell', Nat.reduceAdd, Nat.reduceSub, Nat.reduceMul, Nat.reduceLeDiff, Int.reduceEq, Nat.reduceEqDiff, Try.underlying2, Try.underlying3, Try.underlying5]
  repeat (refine And.intro (by first | omega | (rw [inK_i64]; omega) | rfl | assumption) ?_)
  have hw := when_at k4 0 ((s : Int) + 1) h4 (by omega) (by omega) (by omega) (by omega) (by omega)
  rw [round_head k4 s hn1.2 hsk] at hw
  refine CallsH.mono hw ?_
  rintro v h5 ⟨rfl, x5⟩
  simp only [coreS, Value.cells, Value.oneCell', Nat.reduceAdd, Nat.reduceSub, Nat.reduceMul, Nat.reduceLeDiff, Int.reduceEq, Nat.reduceEqDiff, Try.underlying2, Try.underlying3, Try.underlying5]
  have J2 := I2.ext (x4.trans x5)
  refine CallsH.mono (number38 a2 k4 c2 _ _ J2 (by omega)) ?_
  rintro v h6 ⟨x6, rfl⟩
  have hbe := begE_perm hn1.1 hn1.2 (List.Perm.refl (List.range k4))
  have hnz : numZ k4 (zs (List.range k4)) = 0 := by rw [numZ, if_pos hbe, natL_zs, numN_first k4 hn1.2]; rfl
  simp only [o1, o2, hbe, hnz, coreS, Value.cells, Value.oneCell', Nat.reduceAdd, Nat.reduceSub, Nat.reduceMul, Nat.reduceLeDiff, Int.reduceEq, Nat.reduceEqDiff, Try.underlying2, Try.underlying3, Try.underlying5]
  refine CallsH.mono (all50 k4 _ (by omega)) ?_
  rintro v h7 ⟨x7, a7, c7, rfl, O7⟩
  rw [zs_length, List.length_range] at O7 ⊢
  simp only [coreS, Value.cells, Value.oneCell', Nat.reduceAdd, Nat.reduceSub, Nat.reduceMul, Nat.reduceLeDiff, Int.reduceEq, Nat.reduceEqDiff, Try.underlying2, Try.underlying3, Try.underlying5]
  refine CallsH.mono (ints25 a2 a7 _ _ _ _ _ _ _ (J2.ext (x6.trans x7)) O7.ints (by omega)) ?_
  rintro v h8 ⟨rfl, rfl⟩
  simp only [decide_true, coreS, Value.cells, Value.oneCell', Nat.reduceAdd, Nat.reduceSub, Nat.reduceMul, Nat.reduceLeDiff, Int.reduceEq, Nat.reduceEqDiff, Try.underlying2, Try.underlying3, Try.underlying5]
  refine CallsH.mono (ints25 a4 a2 _ _ _ _ _ _ _ (I4.ext ((x5.trans x6).trans x7)) (J2.ext (x6.trans x7)) (by omega)) ?_
  rintro v h9 ⟨rfl, rfl⟩
  have fz : ((0 : Nat) : Int) = 0 := rfl
  simp only [fz, decide_true, coreS, Value.cells, Value.oneCell', Nat.reduceAdd, Nat.reduceSub, Nat.reduceMul, Nat.reduceLeDiff, Int.reduceEq, Nat.reduceEqDiff, Try.underlying2, Try.underlying3, Try.underlying5]
  refine CallsH.mono (works18 _) ?_
  rintro v h10 ⟨rfl, x10⟩
  simp only [coreS, Value.cells, Value.oneCell', Nat.reduceAdd, Nat.reduceSub, Nat.reduceMul, Nat.reduceLeDiff, Int.reduceEq, Nat.reduceEqDiff, Try.underlying2, Try.underlying3, Try.underlying5]
  exact ((((x2.trans x4).trans x5).trans x6).trans x7).trans x10
end Go.Proofs.Ytoediaepoddonaa
