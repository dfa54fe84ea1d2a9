/- Places that contradict each other. The plain law: no program. No condition. -/
import Derived.Test.YtoediaepoddonaaT18
namespace Go.Proofs.Ytoediaepoddonaa
set_option linter.unusedSimpArgs false
set_option linter.unusedVariables false
instance (n : Nat) (cs : List Nat) (k i : Nat) : Decidable (clashP n cs k i) := inferInstanceAs (Decidable (_ ≠ _))
/-- Two rests have a number of their own below the product just if they agree by what divides both. -/
theorem crt_iff {a b r c : Nat} (hb : b ≤ 12) (hr : r < a) (hc : c < b) : (∃ m, m < a * b ∧ m % a = r ∧ m % b = c) ↔ r % Nat.gcd a b = c % Nat.gcd a b := by
  constructor
  · rintro ⟨m, _, rfl, rfl⟩
    rw [Nat.mod_mod_of_dvd _ (Nat.gcd_dvd_left _ _), Nat.mod_mod_of_dvd _ (Nat.gcd_dvd_right _ _)]
  · intro h
    obtain ⟨k, hk, he⟩ := crt (b := a) hb hc h
    have hkb : k < b := Nat.lt_of_lt_of_le hk (Nat.div_le_self _ _)
    refine ⟨r + k * a, ?_, ?_, he⟩
    · have : (k + 1) * a ≤ b * a := Nat.mul_le_mul_right _ hkb
      rw [Nat.add_mul] at this
      rw [Nat.mul_comm a b]
      omega
    · rw [Nat.add_mul_mod_self_right, Nat.mod_eq_of_lt hr]
theorem clash_iff {n : Nat} {cs : List Nat} {k i : Nat} (hn : n ≤ 12) (hf : fits n cs) (hk : k < cs.length) (hi : i < cs.length) :
    clashP n cs k i ↔ ∀ m, m < (n - k) * (n - i) → ¬ (m % (n - k) = cs.getD k 0 ∧ m % (n - i) = cs.getD i 0) := by
  have h1 := fits_get _ _ _ hf hk
  have h2 := fits_get _ _ _ hf hi
  have := crt_iff (a := n - k) (b := n - i) (by omega) h1 h2
  unfold clashP
  rw [Ne, ← this]
  constructor
  · intro h m hm hh; exact h ⟨m, hm, hh.1, hh.2⟩
  · rintro h ⟨m, hm, h3, h4⟩; exact h m hm ⟨h3, h4⟩
/-- All places, two at a time: by the first one, and then the second one. -/
def pairs2 (n : Nat) : List (Nat × Nat) := (List.range n).flatMap fun i => (List.range (n - (i + 1))).map fun j => (i, i + 1 + j)
theorem pairs2_mem {n : Nat} {p : Nat × Nat} : p ∈ pairs2 n ↔ p.1 < p.2 ∧ p.2 < n := by
  obtain ⟨a, b⟩ := p
  simp only [pairs2, List.mem_flatMap, List.mem_range, List.mem_map, Prod.mk.injEq]
  constructor
  · rintro ⟨i, hi, j, hj, rfl, rfl⟩; omega
  · rintro ⟨h1, h2⟩; exact ⟨a, by omega, b - (a + 1), by omega, rfl, by omega⟩
def lexP (p q : Nat × Nat) : Prop := p.1 < q.1 ∨ p.1 = q.1 ∧ p.2 < q.2
instance : DecidableRel lexP := fun p q => inferInstanceAs (Decidable (_ ∨ _))
theorem pairs2_sorted {n : Nat} (hn : n ≤ 12) : (pairs2 n).Pairwise lexP := by
  have : ∀ n < 13, (pairs2 n).Pairwise lexP := by decide +kernel
  exact this n (by omega)
theorem find_first {q : Nat × Nat → Bool} {p : Nat × Nat} : ∀ {l : List (Nat × Nat)}, l.Pairwise lexP → p ∈ l → q p = true → (∀ x ∈ l, lexP x p → q x = false) → l.find? q = some p
  | [], _, hm, _, _ => by cases hm
  | y :: l, hs, hm, hq, hb => by
    rw [List.pairwise_cons] at hs
    by_cases hy : y = p
    · subst hy; rw [List.find?_cons_of_pos hq]
    · have hm : p ∈ l := by
        rcases List.mem_cons.1 hm with h | h
        · exact absurd h.symm hy
        · exact h
      rw [List.find?_cons_of_neg (by rw [hb y (by simp) (hs.1 p hm)]; simp)]
      exact find_first hs.2 hm hq fun x hx => hb x (by simp [hx])
/-- The first two places that contradict each other. -/
def clashF (n : Nat) (cs : List Nat) : Option (Nat × Nat) := (pairs2 cs.length).find? fun p => decide (clashP n cs p.1 p.2)
theorem find_flat {α β : Type} (f : α → List β) (q : β → Bool) : ∀ l : List α, (l.flatMap f).find? q = l.findSome? fun x => (f x).find? q
  | [] => rfl
  | x :: l => by
    rw [List.flatMap_cons, List.find?_append, find_flat f q l, List.findSome?_cons]
    cases (f x).find? q <;> rfl
theorem clashF_some {n : Nat} {cs : List Nat} {p : Nat × Nat} (h : clashF n cs = some p) : p.1 < p.2 ∧ p.2 < cs.length ∧ clashP n cs p.1 p.2 := by
  have h1 := List.find?_some h
  have h2 := pairs2_mem.1 (List.mem_of_find?_eq_some h)
  exact ⟨h2.1, h2.2, by simpa using h1⟩
theorem clashF_none {n : Nat} {cs : List Nat} (h : clashF n cs = none) {k i : Nat} (hk : k < i) (hi : i < cs.length) : ¬ clashP n cs k i := by
  have := List.find?_eq_none.1 h (k, i) (pairs2_mem.2 ⟨hk, hi⟩)
  simpa using this
/-- What Clash answers. -/
def clashR (shops : Int) (xs : List Int) : Int × Int × Int :=
  if begE shops xs = 0 then match clashF shops.toNat (codeF (List.range shops.toNat) (natL xs)) with
    | some p => ((p.1 : Int), (p.2 : Int), 0)
    | none => (0, 0, 5)
  else (0, 0, begE shops xs)
/-- What CheckClash answers. -/
def chkC (shops : Int) (xs : List Int) (one two : Int) : Int :=
  if begE shops xs = 0 then
    if 0 ≤ one ∧ one < two ∧ two < xs.length then
      if clashP shops.toNat (codeF (List.range shops.toNat) (natL xs)) one.toNat two.toNat then 0 else 14
    else 2
  else begE shops xs
end Go.Proofs.Ytoediaepoddonaa
