/- Walks: Wish, Period, Shops. -/
import Derived.Test.YtoediaepoddonaaT3
namespace Go.Proofs.Ytoediaepoddonaa
open Go Go.Proofs Go.Eng Tab
set_option maxRecDepth 100000
set_option linter.unusedSimpArgs false
set_option linter.unusedVariables false
set_option maxHeartbeats 1000000
theorem openE_nil {n : Int} : openE n [] = if 1 ≤ n ∧ n ≤ 12 then 0 else 6 := by simp [openE]
/-- The period of whole orders, as Wish has it. -/
def wF : Nat → Nat
  | 0 => 1
  | n + 1 => wF n / Nat.gcd (wF n) (n + 1) * (n + 1)
/-- The period of a beginning. -/
def perF (n : Nat) : Nat → Nat
  | 0 => 1
  | k + 1 => perF n k / Nat.gcd (perF n k) (n - k) * (n - k)
theorem wF_le (n : Nat) (hn : n ≤ 12) : wF n ≤ 12 ^ n ∧ 0 < wF n := by
  have : ∀ n < 13, wF n ≤ 12 ^ n ∧ 0 < wF n := by decide +kernel
  exact this n (by omega)
theorem div_int (a b : Nat) : (a : Int).tdiv b = ((a / b : Nat) : Int) := by rw [Int.tdiv_eq_ediv_of_nonneg (by omega)]; rfl
theorem shops44 (m : Int) (h : Heap) (h0 : 0 ≤ m) (h1 : m ≤ 255) : CallsH Try.prog 44 #[.int .u8 m] h (fun v h' => v = .int .i64 (1 + m % 12) ∧ h' = h) := by
  refine CallsH_of_exec Try.func44 rfl bod44 ?_
  simp only [Try.ntmps44, Try.results44, coreS, stK_some, splice, Value.cells, Value.oneCell', Nat.reduceAdd, Nat.reduceSub, Nat.reduceMul, Nat.reduceLeDiff, Int.reduceEq, Nat.reduceEqDiff, Try.underlying3, Try.underlying5]
  refine ⟨by rw [inK_i64]; omega, by omega, ?_⟩
  rw [Int.tmod_eq_emod_of_nonneg h0]
  exact ⟨by rw [inK_i64]; omega, rfl⟩
theorem perF_le (n k : Nat) (hn : n ≤ 12) (hk : k ≤ n) : perF n k ≤ 27720 ∧ 0 < perF n k := by
  have : ∀ n < 13, ∀ k < n + 1, perF n k ≤ 27720 ∧ 0 < perF n k := by decide +kernel
  exact this n (by omega) k (by omega)
theorem wF_le2 (n : Nat) (hn : n ≤ 12) : wF n ≤ 27720 ∧ 0 < wF n := by
  have : ∀ n < 13, wF n ≤ 27720 ∧ 0 < wF n := by decide +kernel
  exact this n (by omega)
theorem period47 (n k : Nat) (h : Heap) (hn : n ≤ 12) (hk : k ≤ n) : CallsH Try.prog 47 #[.int .i64 n, .int .i64 k] h (fun v h' => v = .int .i64 (perF n k) ∧ h' = h) := by
  refine CallsH_of_exec Try.func47 rfl bod47 ?_
  simp only [Try.ntmps47, Try.results47, coreS, stK_some, splice, Value.cells, Value.oneCell', Nat.reduceAdd, Nat.reduceSub, Nat.reduceMul, Nat.reduceLeDiff, Int.reduceEq, Nat.reduceEqDiff]
  refine WP_loopI [5, 6, 7, 8, 9, 10, 11, 12, 13, 14, 15, 16, 17, 18, 19, 20, 21, 22] (fun g h' => h' = h ∧ ∃ i : Nat, i ≤ k ∧ g 6 = .int .i64 i ∧ g 5 = .int .i64 (perF n i)) (fun g _ => match g 6 with | .int _ m => k - m.toNat | _ => 0) ?_ ?_
  · exact ⟨rfl, 0, by omega, rfl, rfl⟩
  · intro g h' hI
    obtain ⟨rfl, i, hi, hg6, hg5⟩ := hI
    simp only [hg6, hg5, coreS, Value.cells, Value.oneCell', Nat.reduceAdd, Nat.reduceSub, Nat.reduceMul, Nat.reduceLeDiff, Int.reduceEq, Nat.reduceEqDiff]
    have hp := perF_le n i hn (by omega)
    refine ⟨fun hlt => ⟨by rw [inK_i64]; omega, ?_⟩, fun hge => ?_⟩
    · have e1 : (n : Int) - i = ((n - i : Nat) : Int) := by omega
      rw [e1]
      refine CallsH.mono (common82 ..) ?_
      rintro v h2 ⟨rfl, rfl⟩
      have hq := perF_le n (i + 1) hn (by omega)
      have hg : 0 < Nat.gcd (perF n i) (n - i) := Nat.gcd_pos_of_pos_left _ hp.2
      have hd : perF n i / Nat.gcd (perF n i) (n - i) ≤ perF n i := Nat.div_le_self _ _
      have e3 : ((perF n i / Nat.gcd (perF n i) (n - i) : Nat) : Int) * ((n - i : Nat) : Int) = (perF n (i + 1) : Int) := by rw [perF]; push_cast; rfl
      simp only [div_int, e3, coreS, Value.cells, Value.oneCell', Nat.reduceAdd, Nat.reduceSub, Nat.reduceMul, Nat.reduceLeDiff, Int.reduceEq, Nat.reduceEqDiff]
      generalize perF n i / Nat.gcd (perF n i) (n - i) = q at *
      refine ⟨by omega, by rw [inK_i64]; omega, by rw [inK_i64]; omega, by rw [inK_i64]; omega, roundK_mk (by kernel_rfl) ⟨rfl, i + 1, by omega, rfl, rfl⟩ ?_⟩
      show k - ((i : Int) + 1).toNat < k - (i : Int).toNat
      omega
    · have : i = k := by omega
      subst this
      simp only [and_self]
/-- What Wish returns. -/
def wishP (n : Nat) (i w : Int) (e : Int) : Prop :=
  (e = 0 ∧ 1 ≤ w ∧ w ≤ wF n ∧ lastF w n = i ∧ ∀ s : Int, 1 ≤ s → s < w → lastF s n ≠ i) ∨ (e = 5 ∧ w = 0 ∧ ∀ s : Int, 1 ≤ s → s ≤ wF n → lastF s n ≠ i)
theorem wish42 (shops shop : Int) (h : Heap) : CallsH Try.prog 42 #[.int .i64 shops, .int .i64 shop] h (fun v h' => Ext h h' ∧ ∃ w e, v = .tuple #[.int .i64 w, .int .i64 e] ∧
    ((¬ (1 ≤ shops ∧ shops ≤ 12) ∧ w = 0 ∧ e = 6) ∨ ((1 ≤ shops ∧ shops ≤ 12) ∧ ¬ (0 ≤ shop ∧ shop < shops) ∧ w = 0 ∧ e = 3) ∨ ((1 ≤ shops ∧ shops ≤ 12) ∧ (0 ≤ shop ∧ shop < shops) ∧ wishP shops.toNat shop w e))) := by
  refine CallsH_of_exec Try.func42 rfl bod42 ?_
  simp only [Try.ntmps42, Try.results42, coreS, stK_some, splice, Value.cells, Value.oneCell', Nat.reduceAdd, Nat.reduceSub, Nat.reduceMul, Nat.reduceLeDiff, Int.reduceEq, Nat.reduceEqDiff, by3, inf3, sz3, zero3, Try.underlying22]
  refine CallsH.mono (open59 shops none 0 0 [] _ (IntsV.nil _) (by omega)) ?_
  rintro v h1 ⟨hx1, hv⟩
  rw [openE_nil] at hv
  rcases hv with ⟨h0, b, rfl, hb, hb2⟩ | ⟨hne, rfl⟩
  · have hsh : 1 ≤ shops ∧ shops ≤ 12 := by
      rcases Decidable.em (1 ≤ shops ∧ shops ≤ 12) with h | h
      · exact h
      · rw [if_neg h] at h0; omega
    simp only [coreS, Value.cells, Value.oneCell', Nat.reduceAdd, Nat.reduceSub, Nat.reduceMul, Nat.reduceLeDiff, Int.reduceEq, Nat.reduceEqDiff, by3, inf3, sz3, zero3, Try.underlying22]
    refine ⟨by rw [inK_i64]; omega, ?_⟩
    refine CallsH.mono (within60 0 (shops - 1) _ _ _ [shop] _ intsV_one (by omega)) ?_
    rintro v h2 ⟨rfl, hx2⟩
    replace hx2 := hx1.trans hx2.of_push
    cases hb1 : inB 0 (shops - 1) [shop]
    · simp only [Bool.not_false, coreS, Value.cells, Value.oneCell', Nat.reduceAdd, Nat.reduceSub, Nat.reduceMul, Nat.reduceLeDiff, Int.reduceEq, Nat.reduceEqDiff, by3, inf3, sz3, zero3, Try.underlying22]
      refine ⟨hx2, _, _, rfl, .inr (.inl ⟨hsh, ?_, rfl, rfl⟩)⟩
      simp [inB] at hb1
      omega
    · have hi : 0 ≤ shop ∧ shop < shops := by simp [inB] at hb1; omega
      obtain ⟨n, rfl⟩ : ∃ n : Nat, shops = n := ⟨shops.toNat, by omega⟩
      have hn : n ≤ 12 := by omega
      simp only [Bool.not_true, coreS, Value.cells, Value.oneCell', Nat.reduceAdd, Nat.reduceSub, Nat.reduceMul, Nat.reduceLeDiff, Int.reduceEq, Nat.reduceEqDiff, by3, inf3, sz3, zero3, Try.underlying22]
      refine WP_loopI [8, 9, 28, 29, 30, 31, 32, 33, 34, 35, 36, 37, 38, 39, 40] (fun g h' => h' = h2 ∧ ∃ i : Nat, i ≤ n ∧ g 28 = .int .i64 i ∧ g 8 = .int .i64 (wF i)) (fun g _ => match g 28 with | .int _ m => n - m.toNat | _ => 0) ?_ ?_
      · exact ⟨rfl, 0, by omega, rfl, rfl⟩
      · intro g h' hI
        obtain ⟨rfl, i, hi, hg28, hg8⟩ := hI
        simp only [hg28, hg8, coreS, Value.cells, Value.oneCell', Nat.reduceAdd, Nat.reduceSub, Nat.reduceMul, Nat.reduceLeDiff, Int.reduceEq, Nat.reduceEqDiff, by3, inf3, sz3, zero3, Try.underlying22]
        have hp := wF_le2 i (by omega)
        refine ⟨fun hlt => ⟨by rw [inK_i64]; omega, ?_⟩, fun hge => ?_⟩
        · have e1 : (i : Int) + 1 = ((i + 1 : Nat) : Int) := by omega
          rw [e1]
          refine CallsH.mono (common81 ..) ?_
          rintro v h2 ⟨rfl, rfl⟩
          have hq := wF_le2 (i + 1) (by omega)
          have hg : 0 < Nat.gcd (wF i) (i + 1) := Nat.gcd_pos_of_pos_left _ hp.2
          have hd : wF i / Nat.gcd (wF i) (i + 1) ≤ wF i := Nat.div_le_self _ _
          have e3 : ((wF i / Nat.gcd (wF i) (i + 1) : Nat) : Int) * ((i + 1 : Nat) : Int) = (wF (i + 1) : Int) := by rw [wF]; push_cast; rfl
          simp only [div_int, e1, e3, coreS, Value.cells, Value.oneCell', Nat.reduceAdd, Nat.reduceSub, Nat.reduceMul, Nat.reduceLeDiff, Int.reduceEq, Nat.reduceEqDiff, by3, inf3, sz3, zero3, Try.underlying22]
          generalize wF i / Nat.gcd (wF i) (i + 1) = q at *
          refine ⟨by omega, by rw [inK_i64]; omega, by rw [inK_i64]; omega, by rw [inK_i64]; omega, by rw [inK_i64]; omega, roundK_mk (by kernel_rfl) ⟨rfl, i + 1, by omega, rfl, rfl⟩ ?_⟩
          show n - ((i + 1 : Nat) : Int).toNat < n - (i : Int).toNat
          omega
        · have : i = n := by omega
          subst this
          rename_i hsp
          refine WP_loopI [4, 5, 10, 42, 43, 44, 45, 46, 47, 48, 49, 50, 51, 52, 53] (fun g h2 => h2 = h' ∧ ∃ j : Nat, j ≤ wF i ∧ g 42 = .int .i64 j ∧ ∀ s : Int, 1 ≤ s → s ≤ j → lastF s i ≠ shop) (fun g _ => match g 42 with | .int _ m => wF i - m.toNat | _ => 0) ?_ ?_
          · exact ⟨rfl, 0, by omega, rfl, fun s h1 h2 => by omega⟩
          · intro g2 h2 hI
            obtain ⟨rfl, j, hj, hg42, hno⟩ := hI
            simp only [hg42, coreS, Value.cells, Value.oneCell', Nat.reduceAdd, Nat.reduceSub, Nat.reduceMul, Nat.reduceLeDiff, Int.reduceEq, Nat.reduceEqDiff, by3, inf3, sz3, zero3, Try.underlying22]
            refine ⟨fun hlt => ⟨by rw [inK_i64]; omega, ?_⟩, fun hge => ?_⟩
            · refine CallsH.mono (last64 i (j + 1) _ (by omega) (by omega) (by omega)) ?_
              rintro v h3 ⟨rfl, rfl⟩
              simp only [coreS, Value.cells, Value.oneCell', Nat.reduceAdd, Nat.reduceSub, Nat.reduceMul, Nat.reduceLeDiff, Int.reduceEq, Nat.reduceEqDiff, by3, inf3, sz3, zero3, Try.underlying22]
              refine ⟨fun heq => ⟨by rw [inK_i64]; omega, hx2, _, _, rfl, .inr (.inr ⟨hsh, hsp, .inl ⟨rfl, by omega, ?_, heq, ?_⟩⟩)⟩, fun hne => ⟨by rw [inK_i64]; omega, roundK_mk (by kernel_rfl) ⟨rfl, j + 1, by omega, rfl, ?_⟩ ?_⟩⟩
              · show (j : Int) + 1 ≤ (wF (i : Int).toNat : Int)
                rw [Int.toNat_natCast]
                omega
              · intro s h1 h2
                exact hno s h1 (by omega)
              · intro s h1 h2
                by_cases hs : s = (j : Int) + 1
                · subst hs; exact hne
                · exact hno s h1 (by omega)
              · show wF i - ((j : Int) + 1).toNat < wF i - (j : Int).toNat
                omega
            · refine ⟨hx2, _, _, rfl, .inr (.inr ⟨hsh, hsp, .inr ⟨rfl, rfl, ?_⟩⟩)⟩
              intro s h1 h2
              exact hno s h1 (by omega)
  · have hsh : ¬ (1 ≤ shops ∧ shops ≤ 12) := by
      intro h
      rw [if_pos h] at hne
      exact hne rfl
    rw [if_neg hsh]
    simp only [coreS, Value.cells, Value.oneCell', Nat.reduceAdd, Nat.reduceSub, Nat.reduceMul, Nat.reduceLeDiff, Int.reduceEq, Nat.reduceEqDiff, by3, inf3, sz3, zero3, Try.underlying22]
    exact ⟨hx1, _, _, rfl, .inl ⟨hsh, rfl, rfl⟩⟩
end Go.Proofs.Ytoediaepoddonaa
