/- Walks: Ordered, TurnPeriods. -/
import Derived.Test.YtoediaepoddonaaT18
namespace Go.Proofs.Ytoediaepoddonaa
open Go Go.Proofs Go.Eng Go.Run Tab
set_option maxRecDepth 100000
set_option linter.unusedSimpArgs false
set_option linter.unusedVariables false
set_option maxHeartbeats 1000000

theorem ordered45 (n : Nat) (m : Int) (h : Eng.Heap) (h1 : 1 ≤ n) (h2 : n ≤ 12) (hm0 : 0 ≤ m) (hm1 : m ≤ 4294967295) :
    CallsH Try.prog 45 #[.int .i64 n, .int .u32 m] h (fun v h' => Ext h h' ∧ ∃ a k c, v = .slice a k c ∧ k = n ∧ k ≤ c ∧ ∃ l, l.Perm (List.range n) ∧ IntsV h' a k (zs l)) := by
  have hf := facF_le n h2
  refine CallsH_of_exec Try.func45 rfl bod45 ?_
  simp only [Try.ntmps45, Try.results45, coreS, stK_some, splice, Value.cells, Value.oneCell', Nat.reduceAdd, Nat.reduceSub, Nat.reduceMul, Nat.reduceLeDiff, Int.reduceEq, Nat.reduceEqDiff, Try.underlying2, Try.underlying47]
  refine ⟨by rw [inK_i64]; omega, ?_⟩
  refine CallsH.mono (many48 n h h2) ?_
  rintro v h' ⟨rfl, rfl⟩
  simp only [coreS, Value.cells, Value.oneCell', Nat.reduceAdd, Nat.reduceSub, Nat.reduceMul, Nat.reduceLeDiff, Int.reduceEq, Nat.reduceEqDiff, Try.underlying2, Try.underlying47]
  obtain ⟨a, ha⟩ : ∃ a : Nat, m % (facF n : Int) = a := ⟨(m % (facF n : Int)).toNat, by have := Int.emod_nonneg m (show (facF n : Int) ≠ 0 by omega); omega⟩
  have ha2 : a < facF n := by have := Int.emod_lt_of_pos m (show (0 : Int) < facF n by omega); omega
  rw [Int.tmod_eq_emod_of_nonneg hm0, ha]
  refine ⟨by omega, ?_⟩
  refine CallsH.mono (numberedR41 n a h') ?_
  rintro v h2 ⟨x2, b, k, c, rfl, hk, hc, I⟩
  simp only [coreS, Value.cells, Value.oneCell', Nat.reduceAdd, Nat.reduceSub, Nat.reduceMul, Nat.reduceLeDiff, Int.reduceEq, Nat.reduceEqDiff, Try.underlying2, Try.underlying47]
  have hok : nbrE n a = 0 := by rw [nbrE, if_pos (by omega), Int.toNat_natCast, if_neg (by omega)]
  rw [nbrZ, if_pos hok, Int.toNat_natCast, Int.toNat_natCast] at I
  have hl := I.len
  rw [zs_length, ordN_length] at hl
  exact ⟨x2, b, k, c, rfl, hl, hc, _, ordN_perm n a, I⟩

theorem isOrd_len {n : Nat} {l : List Nat} (h : l.Perm (List.range n)) : l.length = n := by rw [h.length_eq, List.length_range]
theorem turnPeriods8 (a b c : Int) (h : Eng.Heap) (ha : 0 ≤ a ∧ a ≤ 255) (hb : 0 ≤ b ∧ b ≤ 4294967295) (hc : 0 ≤ c ∧ c ≤ 4294967295) :
    CallsH Try.prog 8 #[.int .u8 a, .int .u32 b, .int .u32 c] h (fun v h' => v = .bool true ∧ Ext h h') := by
  refine CallsH_of_exec Try.func8 rfl bod8 ?_
  simp only [Try.ntmps8, Try.results8, coreS, stK_some, splice, Value.cells, Value.oneCell', Nat.reduceAdd, Nat.reduceSub, Nat.reduceMul, Nat.reduceLeDiff, Int.reduceEq, Nat.reduceEqDiff, Try.underlying2, Try.underlying47]
  refine CallsH.mono (shops44 a _ ha.1 ha.2) ?_
  rintro v h1 ⟨rfl, rfl⟩
  obtain ⟨n, hn⟩ : ∃ n : Nat, 1 + a % 12 = n := ⟨(1 + a % 12).toNat, by omega⟩
  rw [hn]
  have hn1 : 1 ≤ n ∧ n ≤ 12 := by omega
  simp only [coreS, Value.cells, Value.oneCell', Nat.reduceAdd, Nat.reduceSub, Nat.reduceMul, Nat.reduceLeDiff, Int.reduceEq, Nat.reduceEqDiff, Try.underlying2, Try.underlying47]
  have e2 : c.tmod 60000 = c % 60000 := Int.tmod_eq_emod_of_nonneg hc.1
  rw [e2]
  obtain ⟨s, hs⟩ : ∃ s : Int, s = b + 1 := ⟨_, rfl⟩
  obtain ⟨t, ht⟩ : ∃ t : Int, t = c % 60000 + 1 := ⟨_, rfl⟩
  rw [← hs, ← ht]
  repeat (refine And.intro (by first | omega | (rw [inK_i64]; omega) | rfl | assumption) ?_)
  have o1 : openE (n : Int) [s] = 0 := openE_ok (by omega) (by omega) (by omega) (by omega)
  have o2 : openE (n : Int) [t] = 0 := openE_ok (by omega) (by omega) (by omega) (by omega)
  refine CallsH.mono (roundP26 n s _) ?_
  rintro v h2 ⟨x2, a2, m2, c2, rfl, k2, l2, I2⟩
  rw [roundZ_ok o1, Int.toNat_natCast] at I2
  have hl2 := I2.len
  rw [zs_length, roundL_length] at hl2
  subst hl2
  simp only [coreS, Value.cells, Value.oneCell', Nat.reduceAdd, Nat.reduceSub, Nat.reduceMul, Nat.reduceLeDiff, Int.reduceEq, Nat.reduceEqDiff, Try.underlying2, Try.underlying47]
  refine CallsH.mono (roundP26 m2 t _) ?_
  rintro v h3 ⟨x3, a3, m3, c3, rfl, k3, l3, I3⟩
  rw [roundZ_ok o2, Int.toNat_natCast] at I3
  have hl3 := I3.len
  rw [zs_length, roundL_length] at hl3
  subst hl3
  simp only [o1, o2, coreS, Value.cells, Value.oneCell', Nat.reduceAdd, Nat.reduceSub, Nat.reduceMul, Nat.reduceLeDiff, Int.reduceEq, Nat.reduceEqDiff, Try.underlying2, Try.underlying47]
  refine CallsH.mono (isOrder46 _ m3 _ _ _ (I2.ext x3) (by omega) l2 (isOrd_perm (round_perm m3 s))) ?_
  rintro v h4 ⟨rfl, rfl⟩
  simp only [coreS, Value.cells, Value.oneCell', Nat.reduceAdd, Nat.reduceSub, Nat.reduceMul, Nat.reduceLeDiff, Int.reduceEq, Nat.reduceEqDiff, Try.underlying2, Try.underlying47]
  refine CallsH.mono (isOrder46 _ m3 _ _ _ I3 (by omega) l3 (isOrd_perm (round_perm m3 t))) ?_
  rintro v h5 ⟨rfl, rfl⟩
  simp only [coreS, Value.cells, Value.oneCell', Nat.reduceAdd, Nat.reduceSub, Nat.reduceMul, Nat.reduceLeDiff, Int.reduceEq, Nat.reduceEqDiff, Try.underlying2, Try.underlying47]
  refine CallsH.mono (find32 m3 _ m3 _ _ _ (I2.ext x3) (by omega)) ?_
  rintro v h6 ⟨x6, rfl⟩
  obtain ⟨r, hr1, hr2, hr3⟩ := find_round hn1.1 hn1.2 (show 1 ≤ s by omega)
  rw [hr1]
  simp only [coreS, Value.cells, Value.oneCell', Nat.reduceAdd, Nat.reduceSub, Nat.reduceMul, Nat.reduceLeDiff, Int.reduceEq, Nat.reduceEqDiff, Try.underlying2, Try.underlying47]
  refine CallsH.mono (period47 m3 m3 _ hn1.2 (Nat.le_refl _)) ?_
  rintro v h7 ⟨rfl, rfl⟩
  have hp := perF_le m3 m3 hn1.2 (Nat.le_refl _)
  obtain ⟨p, hpe⟩ : ∃ p, p = perF m3 m3 := ⟨_, rfl⟩
  have hiff := round_eq_iff (n := m3) (a := s) (b := t) hn1.2 (by omega) (by omega)
  rw [← hpe] at hr2 hr3 hp hiff ⊢
  have f1 : ¬ ((r : Int) + 1 < 1) := by omega
  have f2 : ¬ ((p : Int) < (r : Int) + 1) := by omega
  have f3 : (s - ((r : Int) + 1)).tmod (p : Int) = 0 := by
    have h8 : p ∣ (s - 1).toNat - r := Nat.dvd_of_mod_eq_zero (by
      have := Nat.sub_mod_eq_zero_of_mod_eq (m := (s - 1).toNat) (n := r) (k := p) (by rw [hr3, Nat.mod_eq_of_lt hr2])
      exact this)
    have hle : r ≤ (s - 1).toNat := by rw [← hr3]; exact Nat.mod_le _ _
    have h9 : s - ((r : Int) + 1) = (((s - 1).toNat - r : Nat) : Int) := by omega
    rw [h9]
    exact Int.tmod_eq_zero_of_dvd (by exact_mod_cast h8)
  have f4 : ((s - t).tmod (p : Int) = 0) = (zs (roundL m3 s) = zs (roundL m3 t)) := by
    apply propext
    constructor
    · intro h8
      have h9 := hiff.2 (Int.emod_eq_zero_of_dvd (Int.dvd_of_tmod_eq_zero h8))
      rw [h9]
    · intro h8
      exact Int.tmod_eq_zero_of_dvd (Int.dvd_of_emod_eq_zero (hiff.1 (zs_inj h8)))
  simp only [f1, f2, f3, decide_false, decide_true, coreS, Value.cells, Value.oneCell', Nat.reduceAdd, Nat.reduceSub, Nat.reduceMul, Nat.reduceLeDiff, Int.reduceEq, Nat.reduceEqDiff, Try.underlying2, Try.underlying47]
  repeat (refine And.intro (by first | omega | (rw [inK_i64]; omega) | rfl | assumption) ?_)
  refine WP_draw (by kernel_rfl) sta_ext [(0, 0), (1, 0), (2, 0), (3, 0), (4, 0), (5, 0), (6, 0), (7, 0), (8, 0), (9, 0), (10, 0), (11, 0), (12, 0), (13, 0)] (by kernel_rfl) rfl (by kernel_rfl) ?_
  simp only [coreS, Value.cells, Value.oneCell', Nat.reduceAdd, Nat.reduceSub, Nat.reduceMul, Nat.reduceLeDiff, Int.reduceEq, Nat.reduceEqDiff, drawS, Try.underlying2, Try.underlying47]
  refine cQ_ext _ (fun h' hx => CallsH.mono (ints25 _ _ _ _ _ _ (zs (roundL m3 s)) (zs (roundL m3 t)) h' (I2.ext ((x3.trans x6).trans hx)) (I3.ext (x6.trans hx)) (by omega)) (fun v h q => ⟨q.1, by rw [q.2]; exact Ext.refl _⟩)) ?_
  simp only [f4, coreS, Value.cells, Value.oneCell', Nat.reduceAdd, Nat.reduceSub, Nat.reduceMul, Nat.reduceLeDiff, Int.reduceEq, Nat.reduceEqDiff, drawS, Try.underlying2, Try.underlying47]
  repeat (refine And.intro (by first | omega | (rw [inK_i64]; omega) | rfl | assumption) ?_)
  refine eqBoolQ sta_ext Try.underlying4 rfl rfl ?_
  simp only [BEq.rfl, coreS, Value.cells, Value.oneCell', Nat.reduceAdd, Nat.reduceSub, Nat.reduceMul, Nat.reduceLeDiff, Int.reduceEq, Nat.reduceEqDiff, drawS, Try.underlying2, Try.underlying47]
  refine cQ_ext _ (fun h' hx => works18 h') ?_
  simp only [coreS, Value.cells, Value.oneCell', Nat.reduceAdd, Nat.reduceSub, Nat.reduceMul, Nat.reduceLeDiff, Int.reduceEq, Nat.reduceEqDiff, drawS, Try.underlying2, Try.underlying47]
  refine hvK_mk fun h' hx => ?_
  simp only [coreS, Value.cells, Value.oneCell', Nat.reduceAdd, Nat.reduceSub, Nat.reduceMul, Nat.reduceLeDiff, Int.reduceEq, Nat.reduceEqDiff, drawS, Try.underlying2, Try.underlying47]
  exact (((x2.trans x3).trans x6).trans hx)
end Go.Proofs.Ytoediaepoddonaa
