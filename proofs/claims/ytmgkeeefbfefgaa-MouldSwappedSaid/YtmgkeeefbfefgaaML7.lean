/- The list of the program is that of the document: the plain law. No condition. -/
import Derived.Test.YtmgkeeefbfefgaaML6
namespace Go.Proofs.Ytmgkeeefbfefgaa
set_option linter.unusedSimpArgs false
set_option linter.unusedVariables false
set_option linter.defProp false
set_option linter.unusedSectionVars false
namespace MB
variable {sh mo : Nat → Nat} {n : Nat}
/-- The first one of the best lists of some wants. -/
def pk (sh mo : Nat → Nat) (mxv : List Nat → Nat) (l : List Nat) : List Nat := pick sh mo mxv (mxv l) l
/-- One want more of the program's list. -/
def lstep (sh mo : Nat → Nat) (mxv : List Nat → Nat) (most : Nat) (st : List Nat × List Nat) (i : Nat) : List Nat × List Nat :=
  if st.2.contains i && st.1.length + 1 + mxv (rest sh mo st.2 i) == most then (st.1 ++ [i], rest sh mo st.2 i) else st
def lgo (sh mo : Nat → Nat) (mxv : List Nat → Nat) (n : Nat) : Nat → List Nat × List Nat
  | 0 => ([], List.range n)
  | i + 1 => lstep sh mo mxv (mxv (List.range n)) (lgo sh mo mxv n i) i
def from_ (l : List Nat) (i : Nat) : List Nat := l.filter fun k => decide (i ≤ k)
theorem from_not {l : List Nat} {i : Nat} (h : i ∉ l) : from_ l i = from_ l (i + 1) := by
  unfold from_
  refine List.filter_congr fun k hk => ?_
  have : k ≠ i := fun e => h (e ▸ hk)
  by_cases h1 : i ≤ k
  · rw [decide_eq_true h1, decide_eq_true (by omega : i + 1 ≤ k)]
  · rw [decide_eq_false h1, decide_eq_false (by omega : ¬ i + 1 ≤ k)]
theorem from_cons : ∀ {l : List Nat} {i : Nat}, l.Pairwise (· < ·) → i ∈ l → from_ l i = i :: from_ l (i + 1)
  | [], _, _, h => absurd h List.not_mem_nil
  | x :: l, i, hp, h => by
    obtain ⟨h1, h2⟩ := List.pairwise_cons.1 hp
    unfold from_
    by_cases e : i = x
    · subst e
      rw [List.filter_cons_of_pos (by simp), List.filter_cons_of_neg (by simp)]
      have : ∀ k, k ∈ l → decide (i ≤ k) = decide (i + 1 ≤ k) := fun k hk => by
        have := h1 k hk
        rw [decide_eq_true (by omega : i ≤ k), decide_eq_true (by omega : i + 1 ≤ k)]
      rw [List.filter_congr this]
    · rcases List.mem_cons.1 h with h3 | h3
      · exact absurd h3 e
      have h4 := h1 i h3
      rw [List.filter_cons_of_neg (by simp; omega), List.filter_cons_of_neg (by simp; omega)]
      exact from_cons h2 h3
theorem rest_from (l : List Nat) (i : Nat) : rest sh mo (from_ l i) i = rest sh mo l i := by
  unfold rest from_
  rw [List.filter_filter]
  refine List.filter_congr fun k _ => ?_
  by_cases h : k ≤ i
  · simp [h]
  · simp [h, (by omega : i ≤ k)]
theorem sorted_rest {l : List Nat} {i : Nat} (h : l.Pairwise (· < ·)) : (rest sh mo l i).Pairwise (· < ·) := List.Pairwise.filter _ h
theorem from_rest (l : List Nat) (i : Nat) : from_ (rest sh mo l i) (i + 1) = rest sh mo l i := by
  unfold from_
  rw [List.filter_eq_self]
  intro k hk
  have := (mem_rest.1 hk).2.1
  exact decide_eq_true (by omega)
section
variable {mxv : List Nat → Nat} (hmx : ∀ l : List Nat, (∀ i, i ∈ l → i < n) → Mx sh mo l (mxv l))
include hmx
theorem pk_take {l : List Nat} {i : Nat} (h : 1 + mxv (rest sh mo (i :: l) i) = mxv (i :: l)) : pk sh mo mxv (i :: l) = i :: pk sh mo mxv (rest sh mo (i :: l) i) := by
  unfold pk
  rw [show mxv (i :: l) = mxv (rest sh mo (i :: l) i) + 1 by omega]
  exact pick_take hmx _ h
theorem pk_skip {l : List Nat} {i : Nat} (hl : ∀ k, k ∈ i :: l → k < n) (hm : ∀ k, k ∈ l → i < k) (h : 1 + mxv (rest sh mo (i :: l) i) ≠ mxv (i :: l)) : pk sh mo mxv (i :: l) = pk sh mo mxv l := by
  unfold pk
  rw [mx_skip hmx hl hm h]
  exact pick_skip hmx _ hl hm h
theorem lgo_inv : ∀ i, i ≤ n → (∀ k, k ∈ (lgo sh mo mxv n i).2 → k < n) ∧ (lgo sh mo mxv n i).2.Pairwise (· < ·) ∧ (lgo sh mo mxv n i).1.length + mxv (from_ (lgo sh mo mxv n i).2 i) = mxv (List.range n) ∧ (lgo sh mo mxv n i).1 ++ pk sh mo mxv (from_ (lgo sh mo mxv n i).2 i) = pk sh mo mxv (List.range n)
  | 0, _ => by
    have e : from_ (List.range n) 0 = List.range n := by unfold from_; rw [List.filter_eq_self]; intro k _; simp
    refine ⟨fun k hk => List.mem_range.1 hk, List.pairwise_lt_range, ?_, ?_⟩
    · show ([] : List Nat).length + mxv (from_ (List.range n) 0) = _
      rw [e]; simp
    · show [] ++ pk sh mo mxv (from_ (List.range n) 0) = _
      rw [e]; rfl
  | i + 1, hi => by
    obtain ⟨h1, h2, h3, h4⟩ := lgo_inv i (by omega)
    rw [lgo]
    generalize lgo sh mo mxv n i = st at h1 h2 h3 h4
    obtain ⟨out, left⟩ := st
    simp only at h1 h2 h3 h4
    by_cases hm : i ∈ left
    · have hc := from_cons h2 hm
      have hr : rest sh mo (i :: from_ left (i + 1)) i = rest sh mo left i := by rw [← hc, rest_from]
      have hl : ∀ k, k ∈ i :: from_ left (i + 1) → k < n := fun k hk => by
        rw [← hc] at hk
        exact h1 k (List.mem_filter.1 hk).1
      have hgt : ∀ k, k ∈ from_ left (i + 1) → i < k := fun k hk => by
        have := of_decide_eq_true (List.mem_filter.1 hk).2
        omega
      rw [hc] at h3 h4
      by_cases hs : 1 + mxv (rest sh mo left i) = mxv (i :: from_ left (i + 1))
      · have e : lstep sh mo mxv (mxv (List.range n)) (out, left) i = (out ++ [i], rest sh mo left i) := by
          unfold lstep
          rw [if_pos]
          simp only [Bool.and_eq_true, beq_iff_eq]
          exact ⟨by simpa using hm, by omega⟩
        rw [e]
        refine ⟨fun k hk => h1 k (mem_rest.1 hk).1, sorted_rest h2, ?_, ?_⟩
        · show (out ++ [i]).length + mxv (from_ (rest sh mo left i) (i + 1)) = _
          rw [from_rest, List.length_append]
          simp only [List.length_cons, List.length_nil]
          omega
        · show (out ++ [i]) ++ pk sh mo mxv (from_ (rest sh mo left i) (i + 1)) = _
          rw [from_rest, ← h4, pk_take hmx (by rw [hr]; exact hs), hr, List.append_assoc]
          rfl
      · have e : lstep sh mo mxv (mxv (List.range n)) (out, left) i = (out, left) := by
          unfold lstep
          rw [if_neg]
          simp only [Bool.and_eq_true, beq_iff_eq]
          rintro ⟨_, h5⟩
          omega
        rw [e]
        have h6 := mx_skip hmx hl hgt (by rw [hr]; exact hs)
        exact ⟨h1, h2, by rw [h6] at h3; exact h3, by rw [pk_skip hmx hl hgt (by rw [hr]; exact hs)] at h4; exact h4⟩
    · have e : lstep sh mo mxv (mxv (List.range n)) (out, left) i = (out, left) := by
        unfold lstep
        rw [if_neg]
        simp only [Bool.and_eq_true, beq_iff_eq]
        rintro ⟨h5, _⟩
        exact hm (by simpa using h5)
      rw [e]
      rw [from_not hm] at h3 h4
      exact ⟨h1, h2, h3, h4⟩
theorem pk_length {l : List Nat} (hl : ∀ i, i ∈ l → i < n) : (pk sh mo mxv l).length = mxv l := pick_length hmx _ l hl (Nat.le_refl _)
/-- The program's list is the first one of the best. -/
theorem lgo_pk : (lgo sh mo mxv n n).1 = pk sh mo mxv (List.range n) := by
  obtain ⟨h1, _, h3, h4⟩ := lgo_inv hmx n (Nat.le_refl _)
  have e : from_ (lgo sh mo mxv n n).2 n = [] := by
    unfold from_
    rw [List.filter_eq_nil_iff]
    intro k hk
    have := h1 k hk
    simp; omega
  rw [e] at h4
  have h5 := pk_length hmx (l := []) (fun i hi => absurd hi List.not_mem_nil)
  have h6 : mxv [] = 0 := by
    obtain ⟨L, _, b, c⟩ := (hmx [] fun i hi => absurd hi List.not_mem_nil).some_
    cases L with
    | nil => simpa using c.symm
    | cons x L => exact absurd (b x List.mem_cons_self) List.not_mem_nil
  rw [h6] at h5
  rw [List.eq_nil_of_length_eq_zero h5, List.append_nil] at h4
  exact h4
end
end MB
end Go.Proofs.Ytmgkeeefbfefgaa
