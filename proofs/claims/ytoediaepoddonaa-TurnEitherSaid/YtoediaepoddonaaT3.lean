/- Walks: last, common, open, Last. -/
import Derived.Test.YtoediaepoddonaaT1
import Derived.Test.YtoediaepoddonaaT2
namespace Go.Proofs.Ytoediaepoddonaa
open Go Go.Proofs Go.Eng Tab
set_option maxRecDepth 100000
set_option linter.unusedSimpArgs false
set_option linter.unusedVariables false
set_option maxHeartbeats 1000000
/-- The last shop by a step, of so many. -/
def lastF (s : Int) : Nat → Int
  | 0 => 0
  | n + 1 => (lastF s n + s) % ((n : Int) + 1)
theorem lastF_range (s : Int) (n : Nat) : 0 ≤ lastF s n ∧ (0 < n → lastF s n < n) := by
  cases n with
  | zero => exact ⟨Int.le_refl _, fun h => absurd h (by omega)⟩
  | succ n => exact ⟨Int.emod_nonneg _ (by omega), fun _ => by have := Int.emod_lt_of_pos (lastF s n + s) (show (0 : Int) < n + 1 by omega); simp only [lastF]; omega⟩
theorem last64 (n : Nat) (s : Int) (h : Heap) (hn : n ≤ 1000000) (h0 : 0 ≤ s) (h1 : s ≤ 2199023255552) :
    CallsH Try.prog 64 #[.int .i64 n, .int .i64 s] h (fun v h' => v = .int .i64 (lastF s n) ∧ h' = h) := by
  refine CallsH_of_exec Try.func64 rfl bod64 ?_
  simp only [Try.ntmps64, Try.results64, coreS, stK_some, splice, Value.cells, Value.oneCell', Nat.reduceAdd, Nat.reduceSub, Nat.reduceMul, Nat.reduceLeDiff, Int.reduceEq, Nat.reduceEqDiff]
  refine WP_loopI [5, 6, 8, 9, 10, 11, 12, 13, 14, 15, 16, 17] (fun g h' => h' = h ∧ ∃ i : Nat, i ≤ n ∧ g 8 = .int .i64 i ∧ g 5 = .int .i64 (lastF s i)) (fun g _ => match g 8 with | .int _ m => n - m.toNat | _ => 0) ?_ ?_
  · exact ⟨rfl, 0, by omega, rfl, rfl⟩
  · intro g h' hI
    obtain ⟨rfl, i, hin, hg8, hg5⟩ := hI
    have hr := lastF_range s i
    have hr2 : lastF s i ≤ n := by
      rcases Nat.eq_zero_or_pos i with h | h
      · subst h; simp [lastF]
      · have := hr.2 h; omega
    simp only [hg8, hg5, coreS, Value.cells, Value.oneCell', Nat.reduceAdd, Nat.reduceSub, Nat.reduceMul, Nat.reduceLeDiff, Int.reduceEq, Nat.reduceEqDiff]
    refine ⟨fun hlt => ?_, fun hge => ?_⟩
    · refine ⟨by rw [inK_i64]; omega, by rw [inK_i64]; omega, by omega, by rw [inK_i64]; omega, roundK_mk (by kernel_rfl) ⟨rfl, i + 1, by omega, rfl, ?_⟩ ?_⟩
      · show Value.int _ _ = _
        rw [lastF, Int.tmod_eq_emod_of_nonneg (by omega)]
      · show n - ((i : Int) + 1).toNat < n - (i : Int).toNat
        omega
    · have : i = n := by omega
      subst this
      simp only [and_self]
theorem gcd_step (a b : Nat) : Nat.gcd b (a % b) = Nat.gcd a b := by rw [Nat.gcd_comm a b, Nat.gcd_rec b a, Nat.gcd_comm]
theorem common81 (a b : Nat) (h : Heap) :
    CallsH Try.prog 81 #[.int .i64 a, .int .i64 b] h (fun v h' => v = .int .i64 (Nat.gcd a b) ∧ h' = h) := by
  refine CallsH_of_exec Try.func81 rfl bod81 ?_
  simp only [Try.ntmps81, Try.results81, coreS, stK_some, splice, Value.cells, Value.oneCell', Nat.reduceAdd, Nat.reduceSub, Nat.reduceMul, Nat.reduceLeDiff, Int.reduceEq, Nat.reduceEqDiff]
  refine WP_loopI [0, 1, 5, 6, 7, 8, 9, 10] (fun g h' => h' = h ∧ ∃ x y : Nat, g 0 = .int .i64 x ∧ g 1 = .int .i64 y ∧ Nat.gcd x y = Nat.gcd a b) (fun g _ => match g 1 with | .int _ m => m.toNat | _ => 0) ?_ ?_
  · exact ⟨rfl, a, b, rfl, rfl, rfl⟩
  · intro g h' hI
    obtain ⟨rfl, x, y, hg0, hg1, hgc⟩ := hI
    simp only [hg0, hg1, coreS, Value.cells, Value.oneCell', Nat.reduceAdd, Nat.reduceSub, Nat.reduceMul, Nat.reduceLeDiff, Int.reduceEq, Nat.reduceEqDiff]
    refine ⟨fun hlt => ?_, fun hge => ?_⟩
    · refine WP_draw (by kernel_rfl) sta_eq [(0, 0), (1, 0), (2, 0), (3, 0), (4, 0), (5, 0)] (by kernel_rfl) rfl (by kernel_rfl) ?_
      simp only [coreS, Value.cells, Value.oneCell', Nat.reduceAdd, Nat.reduceSub, Nat.reduceMul, Nat.reduceLeDiff, Int.reduceEq, Nat.reduceEqDiff, drawS]
      have e1 : (x : Int).tmod y = ((x % y : Nat) : Int) := by rw [Int.tmod_eq_emod_of_nonneg (by omega)]; rfl
      refine ⟨by omega, roundK_mk (by kernel_rfl) ⟨rfl, y, x % y, rfl, by show Value.int _ _ = _; rw [e1], by rw [gcd_step]; exact hgc⟩ ?_⟩
      show ((x : Int).tmod y).toNat < (y : Int).toNat
      rw [e1]
      have := Nat.mod_lt x (show 0 < y by omega)
      omega
    · have : y = 0 := by omega
      subst this
      simp only [Nat.gcd_zero_right] at hgc
      simp only [hgc, and_self]
theorem common82 (a b : Nat) (h : Heap) :
    CallsH Try.prog 82 #[.int .i64 a, .int .i64 b] h (fun v h' => v = .int .i64 (Nat.gcd a b) ∧ h' = h) := by
  refine CallsH_of_exec Try.func82 rfl bod82 ?_
  simp only [Try.ntmps82, Try.results82, coreS, stK_some, splice, Value.cells, Value.oneCell', Nat.reduceAdd, Nat.reduceSub, Nat.reduceMul, Nat.reduceLeDiff, Int.reduceEq, Nat.reduceEqDiff]
  refine WP_loopI [0, 1, 5, 6, 7, 8, 9, 10] (fun g h' => h' = h ∧ ∃ x y : Nat, g 0 = .int .i64 x ∧ g 1 = .int .i64 y ∧ Nat.gcd x y = Nat.gcd a b) (fun g _ => match g 1 with | .int _ m => m.toNat | _ => 0) ?_ ?_
  · exact ⟨rfl, a, b, rfl, rfl, rfl⟩
  · intro g h' hI
    obtain ⟨rfl, x, y, hg0, hg1, hgc⟩ := hI
    simp only [hg0, hg1, coreS, Value.cells, Value.oneCell', Nat.reduceAdd, Nat.reduceSub, Nat.reduceMul, Nat.reduceLeDiff, Int.reduceEq, Nat.reduceEqDiff]
    refine ⟨fun hge => ?_, fun hlt => ?_⟩
    rotate_left
    · refine WP_draw (by kernel_rfl) sta_eq [(0, 0), (1, 0), (2, 0), (3, 0), (4, 0), (5, 0)] (by kernel_rfl) rfl (by kernel_rfl) ?_
      simp only [coreS, Value.cells, Value.oneCell', Nat.reduceAdd, Nat.reduceSub, Nat.reduceMul, Nat.reduceLeDiff, Int.reduceEq, Nat.reduceEqDiff, drawS]
      have e1 : (x : Int).tmod y = ((x % y : Nat) : Int) := by rw [Int.tmod_eq_emod_of_nonneg (by omega)]; rfl
      refine ⟨by omega, roundK_mk (by kernel_rfl) ⟨rfl, y, x % y, rfl, by show Value.int _ _ = _; rw [e1], by rw [gcd_step]; exact hgc⟩ ?_⟩
      show ((x : Int).tmod y).toNat < (y : Int).toNat
      rw [e1]
      have := Nat.mod_lt x (show 0 < y by omega)
      omega
    · have : y = 0 := by omega
      subst this
      simp only [Nat.gcd_zero_right] at hgc
      simp only [hgc, and_self]
theorem intsV_one {h : Heap} {x : Int} {ct : TypeId} {fr : Nat × Nat} : IntsV (h.push (.cells #[.int .i64 x] ct fr)) (some ⟨h.size, 0, none⟩) 1 [x] := IntsV.block (xs := [x]) push_new
/-- The error of a number of shops, and of steps. -/
def openE (shops : Int) (steps : List Int) : Int := if 1 ≤ shops ∧ shops ≤ 12 then if steps.any fun x => decide (x < 1) || decide (1099511627776 < x) then 2 else 0 else 6
theorem open59 (shops : Int) (a : Option Addr) (n c : Nat) (steps : List Int) (h : Heap) (hs : IntsV h a n steps) (hl : n ≤ 1000000) :
    CallsH Try.prog 59 #[.int .i64 shops, .slice a n c] h (fun v h' => Ext h h' ∧ ((openE shops steps = 0 ∧ ∃ b, v = .tuple #[.pointer (some ⟨b, 0, none⟩), .int .i64 0] ∧ h'[b]? = some (.cells (rcells shops (List.replicate 12 0) 0).toArray 105) ∧ h.size ≤ b) ∨
      (openE shops steps ≠ 0 ∧ v = .tuple #[.pointer none, .int .i64 (openE shops steps)]))) := by
  have hn := hs.len
  refine CallsH_of_exec Try.func59 rfl bod59 ?_
  simp only [Try.ntmps59, Try.results59, coreS, stK_some, splice, Value.cells, Value.oneCell', Nat.reduceAdd, Nat.reduceSub, Nat.reduceMul, Nat.reduceLeDiff, Int.reduceEq, Nat.reduceEqDiff, agg2, by2, by3, inf2, inf3, sz2, sz3, zero3, Try.underlying22, Try.underlying107]
  refine CallsH.mono (within60 1 12 _ _ _ [shops] _ ?_ ?_) ?_
  · exact intsV_one
  · omega
  rintro v h1 ⟨rfl, hx1⟩
  replace hx1 := hx1.of_push
  cases hb1 : inB 1 12 [shops]
  · have : ¬ (1 ≤ shops ∧ shops ≤ 12) := by simp [inB] at hb1; omega
    simp only [Bool.not_false, coreS, Value.cells, Value.oneCell', Nat.reduceAdd, Nat.reduceSub, Nat.reduceMul, Nat.reduceLeDiff, Int.reduceEq, Nat.reduceEqDiff, agg2, by2, by3, inf2, inf3, sz2, sz3, zero3, Try.underlying22, Try.underlying107]
    exact ⟨hx1, .inr (by simp [openE, this])⟩
  · have hsh : 1 ≤ shops ∧ shops ≤ 12 := by simp [inB] at hb1; omega
    simp only [Bool.not_true, coreS, Value.cells, Value.oneCell', Nat.reduceAdd, Nat.reduceSub, Nat.reduceMul, Nat.reduceLeDiff, Int.reduceEq, Nat.reduceEqDiff, agg2, by2, by3, inf2, inf3, sz2, sz3, zero3, Try.underlying22, Try.underlying107]
    refine WP_loopI [4, 5, 7, 14, 15, 16, 17, 18, 19, 20, 21, 22, 23, 24] (fun g h' => h' = h1 ∧ ∃ i : Nat, i ≤ n ∧ g 14 = .int .i64 i ∧ ∀ j < i, 1 ≤ steps.getD j 0 ∧ steps.getD j 0 ≤ 1099511627776) (fun g _ => match g 14 with | .int _ m => n - m.toNat | _ => 0) ?_ ?_
    · exact ⟨rfl, 0, by omega, rfl, fun j hj => by omega⟩
    · intro g h' hI
      obtain ⟨rfl, i, hin, hg, hno⟩ := hI
      have mem : ∀ j, j < steps.length → steps.getD j 0 ∈ steps := fun j hj => by simp [List.getD, List.getElem?_eq_getElem hj]
      have bad : ∀ j, j < steps.length → (steps.getD j 0 < 1 ∨ 1099511627776 < steps.getD j 0) → openE shops steps = 2 := fun j hj hb => by
        unfold openE
        rw [if_pos hsh, if_pos]
        rw [List.any_eq_true]
        exact ⟨_, mem j hj, by simpa using hb⟩
      by_cases hlt : i < steps.length
      · simp only [hg, (hs.ext hx1).cell hlt, coreS, Value.cells, Value.oneCell', Nat.reduceAdd, Nat.reduceSub, Nat.reduceMul, Nat.reduceLeDiff, Int.reduceEq, Nat.reduceEqDiff, agg2, by2, by3, inf2, inf3, sz2, sz3, zero3, Try.underlying22, Try.underlying107]
        refine ⟨fun _ => ⟨⟨by omega, by omega⟩, (hs.ext hx1).isSome (by omega), ?_⟩, fun hc => absurd hc (by omega)⟩
        refine ⟨fun hb => ⟨hx1, .inr ?_⟩, fun hb => ⟨fun hb2 => ⟨hx1, .inr ?_⟩, fun hb2 => ⟨by rw [inK_i64]; omega, roundK_mk (by kernel_rfl) ⟨rfl, i + 1, by omega, rfl, ?_⟩ ?_⟩⟩⟩
        · rw [bad i hlt (.inl hb)]; exact ⟨by decide, rfl⟩
        · rw [bad i hlt (.inr hb2)]; exact ⟨by decide, rfl⟩
        · intro j hj
          by_cases hji : j = i
          · subst hji; omega
          · exact hno j (by omega)
        · show n - ((i : Int) + 1).toNat < n - (i : Int).toNat
          omega
      · simp only [hg, coreS, Value.cells, Value.oneCell', Nat.reduceAdd, Nat.reduceSub, Nat.reduceMul, Nat.reduceLeDiff, Int.reduceEq, Nat.reduceEqDiff, agg2, by2, by3, inf2, inf3, sz2, sz3, zero3, Try.underlying22, Try.underlying107]
        refine ⟨fun hc => absurd hc (by omega), fun _ => ?_⟩
        have h0 : openE shops steps = 0 := by
          unfold openE
          rw [if_pos hsh, if_neg]
          rw [List.any_eq_true]
          rintro ⟨x, hx, hb⟩
          obtain ⟨j, hj, rfl⟩ := List.getElem_of_mem hx
          have := hno j (by omega)
          simp [List.getD, List.getElem?_eq_getElem hj] at this hb
          omega
        obtain ⟨m, rfl⟩ : ∃ m : Nat, shops = m := ⟨shops.toNat, by omega⟩
        refine CallsH.mono (newRound52 m (by omega) (by omega) _) ?_
        rintro v h2 ⟨b, rfl, hb, hb2, hx2⟩
        simp only [coreS, Value.cells, Value.oneCell', Nat.reduceAdd, Nat.reduceSub, Nat.reduceMul, Nat.reduceLeDiff, Int.reduceEq, Nat.reduceEqDiff, agg2, by2, by3, inf2, inf3, sz2, sz3, zero3, Try.underlying22, Try.underlying107]
        exact ⟨hx1.trans hx2, .inl ⟨h0, b, rfl, hb, Nat.le_trans hx1.size hb2⟩⟩
/-- The last shop by a step, or the error. -/
theorem last28 (shops step : Int) (h : Heap) : CallsH Try.prog 28 #[.int .i64 shops, .int .i64 step] h (fun v h' => v = .tuple #[.int .i64 (if openE shops [step] = 0 then lastF step shops.toNat else 0), .int .i64 (openE shops [step])] ∧ Ext h h') := by
  refine CallsH_of_exec Try.func28 rfl bod28 ?_
  simp only [Try.ntmps28, Try.results28, coreS, stK_some, splice, Value.cells, Value.oneCell', Nat.reduceAdd, Nat.reduceSub, Nat.reduceMul, Nat.reduceLeDiff, Int.reduceEq, Nat.reduceEqDiff, by2, inf2, sz2, zero2, Try.underlying107]
  refine CallsH.mono (open59 shops _ _ _ [step] _ intsV_one (by omega)) ?_
  rintro v h1 ⟨hx1, hv⟩
  have hx1 := hx1.of_push
  rcases hv with ⟨h0, b, rfl, hb, hb2⟩ | ⟨hne, rfl⟩
  · simp only [h0, coreS, Value.cells, Value.oneCell', Nat.reduceAdd, Nat.reduceSub, Nat.reduceMul, Nat.reduceLeDiff, Int.reduceEq, Nat.reduceEqDiff, by2, inf2, sz2, zero2, Try.underlying107]
    have hr : (1 ≤ shops ∧ shops ≤ 12) ∧ 1 ≤ step ∧ step ≤ 1099511627776 := by
      unfold openE at h0
      split at h0
      · rename_i hc
        simp at h0
        omega
      · omega
    obtain ⟨m, rfl⟩ : ∃ m : Nat, shops = m := ⟨shops.toNat, by omega⟩
    refine CallsH.mono (last64 m step _ (by omega) (by omega) (by omega)) ?_
    rintro v h2 ⟨rfl, rfl⟩
    simp only [h0, coreS, Value.cells, Value.oneCell', Nat.reduceAdd, Nat.reduceSub, Nat.reduceMul, Nat.reduceLeDiff, Int.reduceEq, Nat.reduceEqDiff, by2, inf2, sz2, zero2, Try.underlying107]
    exact hx1
  · simp only [hne, coreS, Value.cells, Value.oneCell', Nat.reduceAdd, Nat.reduceSub, Nat.reduceMul, Nat.reduceLeDiff, Int.reduceEq, Nat.reduceEqDiff, by2, inf2, sz2, zero2, Try.underlying107]
    exact hx1
end Go.Proofs.Ytoediaepoddonaa
