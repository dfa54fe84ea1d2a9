/- The first one of the best lists, one want after another: the plain law. No condition. -/
import Derived.Test.YtmgkeeefbfefgaaML5
namespace Go.Proofs.Ytmgkeeefbfefgaa
set_option linter.unusedSimpArgs false
set_option linter.unusedVariables false
set_option linter.defProp false
set_option linter.unusedSectionVars false
namespace MB
variable {sh mo : Nat → Nat} {n : Nat}
def clash (sh mo : Nat → Nat) (i k : Nat) : Bool := sh i == sh k || mo i == mo k
theorem clash_no {i k : Nat} : clash sh mo i k = false ↔ sh i ≠ sh k ∧ mo i ≠ mo k := by
  unfold clash
  rw [Bool.or_eq_false_iff, beq_eq_false_iff_ne, beq_eq_false_iff_ne]
theorem clash_comm (i k : Nat) : clash sh mo i k = clash sh mo k i := by
  unfold clash
  rw [Bool.beq_comm (a := sh i), Bool.beq_comm (a := mo i)]
/-- What can follow a want. -/
def rest (sh mo : Nat → Nat) (l : List Nat) (i : Nat) : List Nat := l.filter fun k => !(decide (k ≤ i) || clash sh mo i k)
theorem mem_rest {l : List Nat} {i k : Nat} : k ∈ rest sh mo l i ↔ k ∈ l ∧ i < k ∧ sh i ≠ sh k ∧ mo i ≠ mo k := by
  rw [rest, List.mem_filter, Bool.not_eq_true', Bool.or_eq_false_iff, clash_no, decide_eq_false_iff_not, Nat.not_le]
/-- The first one of the best lists, of some wants. -/
def pick (sh mo : Nat → Nat) (mxv : List Nat → Nat) : Nat → List Nat → List Nat
  | 0, _ => []
  | f + 1, l => match l.find? fun i => 1 + mxv (rest sh mo l i) == mxv l with
    | none => []
    | some i => i :: pick sh mo mxv f (rest sh mo l i)
theorem least : ∀ {l : List Nat}, l ≠ [] → ∃ i, i ∈ l ∧ ∀ k, k ∈ l → i ≤ k
  | [], h => absurd rfl h
  | x :: l, _ => by
    by_cases hl : l = []
    · subst hl; exact ⟨x, List.mem_cons_self, fun k hk => by rw [List.mem_singleton] at hk; omega⟩
    · obtain ⟨i, hi, h⟩ := least hl
      by_cases hx : x ≤ i
      · exact ⟨x, List.mem_cons_self, fun k hk => by
          rcases List.mem_cons.1 hk with rfl | hk
          · exact Nat.le_refl _
          · exact Nat.le_trans hx (h k hk)⟩
      · exact ⟨i, List.mem_cons_of_mem _ hi, fun k hk => by
          rcases List.mem_cons.1 hk with rfl | hk
          · omega
          · exact h k hk⟩
theorem free_erase {L : List Nat} (h : free sh mo L) (i : Nat) : free sh mo (L.erase i) := List.Pairwise.sublist List.erase_sublist h
theorem free_cons {L : List Nat} {i : Nat} (h : free sh mo L) (hi : ∀ k, k ∈ L → sh i ≠ sh k ∧ mo i ≠ mo k) : free sh mo (i :: L) := List.pairwise_cons.2 ⟨hi, h⟩
section
variable {mxv : List Nat → Nat} (hmx : ∀ l : List Nat, (∀ i, i ∈ l → i < n) → Mx sh mo l (mxv l))
include hmx
theorem mx_congr {l k : List Nat} (hl : ∀ i, i ∈ l → i < n) (h : ∀ i, i ∈ l ↔ i ∈ k) : mxv l = mxv k := by
  have h1 := hmx l hl
  have h2 := hmx k fun i hi => hl i ((h i).2 hi)
  exact Mx.uniq h1 ⟨by
    obtain ⟨L, a, b, c⟩ := h2.some_
    exact ⟨L, a, fun i hi => (h i).2 (b i hi), c⟩, fun L a b => h2.most L a fun i hi => (h i).1 (b i hi)⟩
theorem mx_le {l k : List Nat} (hk : ∀ i, i ∈ k → i < n) (h : ∀ i, i ∈ l → i ∈ k) : mxv l ≤ mxv k := by
  obtain ⟨L, a, b, c⟩ := (hmx l fun i hi => hk i (h i hi)).some_
  rw [← c]
  exact (hmx k hk).most L a fun i hi => h i (b i hi)
theorem rest_le {l : List Nat} (hl : ∀ i, i ∈ l → i < n) {i : Nat} (hi : i ∈ l) : 1 + mxv (rest sh mo l i) ≤ mxv l := by
  obtain ⟨L, a, b, c⟩ := (hmx (rest sh mo l i) fun k hk => hl k (mem_rest.1 hk).1).some_
  have := (hmx l hl).most (i :: L) (free_cons a fun k hk => (mem_rest.1 (b k hk)).2.2) fun k hk => by
    rcases List.mem_cons.1 hk with rfl | hk
    · exact hi
    · exact (mem_rest.1 (b k hk)).1
  rw [List.length_cons] at this
  omega
/-- If the least want is in a best list, what follows it is as great as can be. -/
theorem best_with {l L : List Nat} (hl : ∀ i, i ∈ l → i < n) (h1 : free sh mo L) (h2 : ∀ i, i ∈ L → i ∈ l) {i : Nat} (hi : i ∈ L) (hm : ∀ k, k ∈ L → i ≤ k) : L.length ≤ 1 + mxv (rest sh mo l i) := by
  have h3 := (hmx (rest sh mo l i) fun k hk => hl k (mem_rest.1 hk).1).most (L.erase i) (free_erase h1 i) fun k hk => by
    have hk2 := List.mem_of_mem_erase hk
    have hne : i ≠ k := fun e => by
      subst e
      exact (List.Nodup.not_mem_erase (free_nodup h1)) hk
    have := hm k hk2
    exact mem_rest.2 ⟨h2 k hk2, by omega, free_ne h1 hi hk2 hne⟩
  rw [List.length_erase_of_mem hi] at h3
  omega
theorem best_first {l : List Nat} (hl : ∀ i, i ∈ l → i < n) (h : 0 < mxv l) : ∃ i, i ∈ l ∧ 1 + mxv (rest sh mo l i) = mxv l := by
  obtain ⟨L, h1, h2, h3⟩ := (hmx l hl).some_
  obtain ⟨i, hi, hm⟩ := least (l := L) (fun e => by rw [e] at h3; simp at h3; omega)
  have h4 := best_with hmx hl h1 h2 hi hm
  have h5 := rest_le hmx hl (h2 i hi)
  exact ⟨i, h2 i hi, by omega⟩
theorem mx_none {l : List Nat} (hl : ∀ i, i ∈ l → i < n) (h : mxv l = 0) : l = [] := by
  cases l with
  | nil => rfl
  | cons x l =>
    have := rest_le hmx hl (List.mem_cons_self (a := x) (l := l))
    omega
theorem pick_length : ∀ (f : Nat) (l : List Nat), (∀ i, i ∈ l → i < n) → mxv l ≤ f → (pick sh mo mxv f l).length = mxv l
  | 0, l, _, h => by rw [pick]; simp; omega
  | f + 1, l, hl, h => by
    rw [pick]
    cases hf : l.find? fun i => 1 + mxv (rest sh mo l i) == mxv l with
    | none =>
      rw [List.find?_eq_none] at hf
      show ([] : List Nat).length = _
      apply Classical.byContradiction
      intro h0
      obtain ⟨i, hi, he⟩ := best_first hmx hl (Nat.pos_of_ne_zero fun e => h0 e.symm)
      exact hf i hi (by simp [he])
    | some i =>
      have h1 := List.find?_some hf
      simp only [beq_iff_eq] at h1
      show (i :: pick sh mo mxv f (rest sh mo l i)).length = _
      rw [List.length_cons, pick_length f _ (fun k hk => hl k (mem_rest.1 hk).1) (by omega)]
      omega
/-- Without a want that begins no best list, the first of them stays. -/
theorem mx_skip {l : List Nat} {i : Nat} (hl : ∀ k, k ∈ i :: l → k < n) (hm : ∀ k, k ∈ l → i < k) (h : 1 + mxv (rest sh mo (i :: l) i) ≠ mxv (i :: l)) : mxv (i :: l) = mxv l := by
  have h1 := mx_le hmx (l := l) (k := i :: l) hl fun k hk => List.mem_cons_of_mem _ hk
  obtain ⟨L, a, b, c⟩ := (hmx (i :: l) hl).some_
  have h2 : i ∉ L := fun hi => by
    have h3 := best_with hmx hl a b hi fun k hk => by
      rcases List.mem_cons.1 (b k hk) with e | hk2
      · omega
      · have := hm k hk2; omega
    have h4 := rest_le hmx hl (List.mem_cons_self (a := i) (l := l))
    omega
  have h3 := (hmx l fun k hk => hl k (List.mem_cons_of_mem _ hk)).most L a fun k hk => by
    rcases List.mem_cons.1 (b k hk) with e | hk2
    · exact absurd (e ▸ hk) h2
    · exact hk2
  omega
theorem pick_skip {l : List Nat} {i : Nat} (f : Nat) (hl : ∀ k, k ∈ i :: l → k < n) (hm : ∀ k, k ∈ l → i < k) (h : 1 + mxv (rest sh mo (i :: l) i) ≠ mxv (i :: l)) : pick sh mo mxv f (i :: l) = pick sh mo mxv f l := by
  cases f with
  | zero => rfl
  | succ f =>
    have e := mx_skip hmx hl hm h
    have hr : ∀ k, k ∈ l → rest sh mo (i :: l) k = rest sh mo l k := fun k hk => by
      unfold rest
      rw [List.filter_cons_of_neg]
      have := hm k hk
      simp only [Bool.not_eq_true', Bool.or_eq_false_iff, decide_eq_false_iff_not]
      omega
    rw [pick, pick, List.find?_cons_of_neg (by simpa using h)]
    have hf : l.find? (fun k => 1 + mxv (rest sh mo (i :: l) k) == mxv (i :: l)) = l.find? (fun k => 1 + mxv (rest sh mo l k) == mxv l) := by
      rw [e]
      generalize mxv l = N
      clear e h hl
      have : ∀ l' : List Nat, (∀ k, k ∈ l' → k ∈ l) → l'.find? (fun k => 1 + mxv (rest sh mo (i :: l) k) == N) = l'.find? (fun k => 1 + mxv (rest sh mo l k) == N) := fun l' => by
        induction l' with
        | nil => intro _; rfl
        | cons x l' ih =>
          intro hs
          rw [List.find?_cons, List.find?_cons, hr x (hs x List.mem_cons_self), ih fun k hk => hs k (List.mem_cons_of_mem _ hk)]
      exact this l fun k hk => hk
    rw [hf]
    cases hq : l.find? (fun k => 1 + mxv (rest sh mo l k) == mxv l) with
    | none => rfl
    | some k =>
      show k :: _ = k :: _
      rw [hr k (List.mem_of_find?_eq_some hq)]
theorem pick_take {l : List Nat} {i : Nat} (f : Nat) (h : 1 + mxv (rest sh mo (i :: l) i) = mxv (i :: l)) : pick sh mo mxv (f + 1) (i :: l) = i :: pick sh mo mxv f (rest sh mo (i :: l) i) := by
  rw [pick, List.find?_cons_of_pos (by simp [h])]
end
end MB
end Go.Proofs.Ytmgkeeefbfefgaa
