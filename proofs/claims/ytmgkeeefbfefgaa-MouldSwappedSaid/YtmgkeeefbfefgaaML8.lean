/- The document's list, gone through whole, is the first one of the best: the plain law. No condition. -/
import Derived.Test.YtmgkeeefbfefgaaML7
namespace Go.Proofs.Ytmgkeeefbfefgaa
set_option linter.unusedSimpArgs false
set_option linter.unusedVariables false
set_option linter.defProp false
set_option linter.unusedSectionVars false
namespace MB
variable {sh mo : Nat → Nat} {n : Nat}
/-- No want of a list clashes with one more. -/
def ok1 (sh mo : Nat → Nat) (bg : List Nat) (i : Nat) : Bool := bg.all fun b => !clash sh mo b i
/-- The document's search. -/
def lof (sh mo : Nat → Nat) (n : Nat) : Nat → List Nat → Nat → List Nat
  | 0, bg, _ => bg
  | f + 1, bg, fr => (List.range' fr (n - fr)).foldl (fun best i => if ok1 sh mo bg i then (if best.length < (lof sh mo n f (bg ++ [i]) (i + 1)).length then lof sh mo n f (bg ++ [i]) (i + 1) else best) else best) bg
def cand (sh mo : Nat → Nat) (n : Nat) (bg : List Nat) (fr : Nat) : List Nat := (List.range' fr (n - fr)).filter (ok1 sh mo bg)
theorem fold_filter (P : Nat → Bool) (v : Nat → List Nat) : ∀ (l : List Nat) (b : List Nat), l.foldl (fun best i => if P i then (if best.length < (v i).length then v i else best) else best) b = (l.filter P).foldl (fun best i => if best.length < (v i).length then v i else best) b
  | [], _ => rfl
  | x :: l, b => by
    rw [List.foldl_cons]
    cases h : P x with
    | true => rw [List.filter_cons_of_pos h, List.foldl_cons, if_pos rfl]; exact fold_filter P v l _
    | false => rw [List.filter_cons_of_neg (by rw [h]; decide)]; simp only [Bool.false_eq_true, if_false]; exact fold_filter P v l b
theorem fold_stay (v : Nat → List Nat) (N : Nat) : ∀ (l : List Nat) (b : List Nat), (∀ i, i ∈ l → (v i).length ≤ N) → b.length = N → l.foldl (fun best i => if best.length < (v i).length then v i else best) b = b
  | [], _, _, _ => rfl
  | x :: l, b, h, hb => by
    rw [List.foldl_cons, if_neg (by have := h x List.mem_cons_self; omega)]
    exact fold_stay v N l b (fun i hi => h i (List.mem_cons_of_mem _ hi)) hb
theorem fold_first (v : Nat → List Nat) (N : Nat) : ∀ (l : List Nat) (b : List Nat), (∀ i, i ∈ l → (v i).length ≤ N) → b.length < N → ∀ {q : Nat}, l.find? (fun i => (v i).length == N) = some q → l.foldl (fun best i => if best.length < (v i).length then v i else best) b = v q
  | [], _, _, _, q, hq => by cases hq
  | x :: l, b, h, hb, q, hq => by
    rw [List.foldl_cons]
    by_cases hx : (v x).length = N
    · rw [List.find?_cons_of_pos (by simpa using hx)] at hq
      cases hq
      rw [if_pos (by omega)]
      exact fold_stay v N l _ (fun i hi => h i (List.mem_cons_of_mem _ hi)) hx
    · rw [List.find?_cons_of_neg (by simpa using hx)] at hq
      have h1 := h x List.mem_cons_self
      refine fold_first v N l _ (fun i hi => h i (List.mem_cons_of_mem _ hi)) ?_ hq
      split <;> omega
theorem mem_cand {bg : List Nat} {fr k : Nat} : k ∈ cand sh mo n bg fr ↔ fr ≤ k ∧ k < n ∧ ok1 sh mo bg k = true := by
  rw [cand, List.mem_filter, List.mem_range'_1]
  constructor
  · rintro ⟨⟨h1, h2⟩, h3⟩; exact ⟨h1, by omega, h3⟩
  · rintro ⟨h1, h2, h3⟩; exact ⟨⟨h1, by omega⟩, h3⟩
theorem sorted_range' (s : Nat) : ∀ m, (List.range' s m).Pairwise (· < ·) := fun m => List.pairwise_lt_range'
theorem sorted_ext : ∀ {l k : List Nat}, l.Pairwise (· < ·) → k.Pairwise (· < ·) → (∀ x, x ∈ l ↔ x ∈ k) → l = k
  | [], [], _, _, _ => rfl
  | [], y :: k, _, _, h => absurd ((h y).2 List.mem_cons_self) List.not_mem_nil
  | x :: l, [], _, _, h => absurd ((h x).1 List.mem_cons_self) List.not_mem_nil
  | x :: l, y :: k, hl, hk, h => by
    obtain ⟨l1, l2⟩ := List.pairwise_cons.1 hl
    obtain ⟨k1, k2⟩ := List.pairwise_cons.1 hk
    have e : x = y := by
      rcases List.mem_cons.1 ((h x).1 List.mem_cons_self) with e | h1
      · exact e
      · rcases List.mem_cons.1 ((h y).2 List.mem_cons_self) with e | h2
        · exact e.symm
        · have := k1 x h1; have := l1 y h2; omega
    subst e
    rw [sorted_ext l2 k2 fun z => ?_]
    have hz := h z
    rw [List.mem_cons, List.mem_cons] at hz
    constructor
    · intro h1
      rcases hz.1 (.inr h1) with e | h2
      · have := l1 z h1; omega
      · exact h2
    · intro h1
      rcases hz.2 (.inr h1) with e | h2
      · have := k1 z h1; omega
      · exact h2
theorem sorted_cand {bg : List Nat} {fr : Nat} : (cand sh mo n bg fr).Pairwise (· < ·) := List.Pairwise.filter _ (sorted_range' _ _)
theorem cand_rest {bg : List Nat} {fr i : Nat} (hi : i ∈ cand sh mo n bg fr) : cand sh mo n (bg ++ [i]) (i + 1) = rest sh mo (cand sh mo n bg fr) i := by
  refine sorted_ext sorted_cand (sorted_rest sorted_cand) fun k => ?_
  rw [mem_cand, mem_rest, mem_cand]
  have h1 := (mem_cand.1 hi).1
  unfold ok1
  rw [List.all_append, Bool.and_eq_true]
  simp only [List.all_cons, List.all_nil, Bool.and_true, Bool.not_eq_true', clash_no]
  constructor
  · rintro ⟨a, b, c, d⟩; exact ⟨⟨by omega, b, c⟩, by omega, d⟩
  · rintro ⟨⟨a, b, c⟩, d, e⟩; exact ⟨by omega, b, c, e⟩
section
variable {mxv : List Nat → Nat} (hmx : ∀ l : List Nat, (∀ i, i ∈ l → i < n) → Mx sh mo l (mxv l))
include hmx
theorem lof_pk : ∀ (f : Nat) (bg : List Nat) (fr : Nat), n - fr < f → lof sh mo n f bg fr = bg ++ pk sh mo mxv (cand sh mo n bg fr)
  | 0, _, _, h => absurd h (by omega)
  | f + 1, bg, fr, h => by
    have hc : ∀ i, i ∈ cand sh mo n bg fr → i < n := fun i hi => (mem_cand.1 hi).2.1
    have hv : ∀ i, i ∈ cand sh mo n bg fr → lof sh mo n f (bg ++ [i]) (i + 1) = (bg ++ [i]) ++ pk sh mo mxv (rest sh mo (cand sh mo n bg fr) i) := fun i hi => by
      obtain ⟨h1, h2, _⟩ := mem_cand.1 hi
      rw [lof_pk f (bg ++ [i]) (i + 1) (by omega), cand_rest hi]
    have hlen : ∀ i, i ∈ cand sh mo n bg fr → (lof sh mo n f (bg ++ [i]) (i + 1)).length = bg.length + (1 + mxv (rest sh mo (cand sh mo n bg fr) i)) := fun i hi => by
      rw [hv i hi, List.length_append, List.length_append, pk_length hmx fun k hk => hc k (mem_rest.1 hk).1]
      simp only [List.length_cons, List.length_nil]
      omega
    have hle : ∀ i, i ∈ cand sh mo n bg fr → (lof sh mo n f (bg ++ [i]) (i + 1)).length ≤ bg.length + mxv (cand sh mo n bg fr) := fun i hi => by
      rw [hlen i hi]
      have := rest_le hmx hc hi
      omega
    rw [lof, fold_filter]
    show (cand sh mo n bg fr).foldl _ bg = _
    generalize hcd : cand sh mo n bg fr = cd at hc hv hlen hle
    by_cases h0 : mxv cd = 0
    · have := mx_none hmx hc h0
      subst this
      have e : pk sh mo mxv [] = [] := by unfold pk; rw [h0]; rfl
      rw [e, List.append_nil]
      rfl
    · obtain ⟨i, hi, hie⟩ := best_first hmx hc (Nat.pos_of_ne_zero h0)
      have hfe : ∀ l' : List Nat, (∀ k, k ∈ l' → k ∈ cd) → l'.find? (fun i => (lof sh mo n f (bg ++ [i]) (i + 1)).length == bg.length + mxv cd) = l'.find? (fun i => 1 + mxv (rest sh mo cd i) == mxv cd) := fun l' => by
        induction l' with
        | nil => intro _; rfl
        | cons x l' ih =>
          intro hs
          rw [List.find?_cons, List.find?_cons, hlen x (hs x List.mem_cons_self), ih fun k hk => hs k (List.mem_cons_of_mem _ hk)]
          have : (bg.length + (1 + mxv (rest sh mo cd x)) == bg.length + mxv cd) = (1 + mxv (rest sh mo cd x) == mxv cd) := by
            rw [Bool.eq_iff_iff, beq_iff_eq, beq_iff_eq]; omega
          rw [this]
      cases hq : cd.find? (fun i => 1 + mxv (rest sh mo cd i) == mxv cd) with
      | none =>
        rw [List.find?_eq_none] at hq
        exact absurd (hq i hi) (by simp [hie])
      | some q =>
        have hq2 := List.mem_of_find?_eq_some hq
        rw [fold_first (fun i => lof sh mo n f (bg ++ [i]) (i + 1)) (bg.length + mxv cd) cd bg hle (by omega) ((hfe cd fun k hk => hk).trans hq)]
        show lof sh mo n f (bg ++ [q]) (q + 1) = _
        rw [hv q hq2]
        have : pk sh mo mxv cd = q :: pk sh mo mxv (rest sh mo cd q) := by
          have h1 := List.find?_some hq
          simp only [beq_iff_eq] at h1
          unfold pk
          obtain ⟨z, hz⟩ : ∃ z, mxv cd = z + 1 := ⟨mxv cd - 1, by omega⟩
          rw [hz, pick, hq]
          show q :: pick sh mo mxv z _ = q :: _
          rw [show mxv (rest sh mo cd q) = z by omega]
        rw [this, List.append_assoc]
        rfl
/-- The program's list is the document's. -/
theorem list_same : lof sh mo n (n + 1) [] 0 = (lgo sh mo mxv n n).1 := by
  rw [lof_pk hmx (n + 1) [] 0 (by omega), lgo_pk hmx, List.nil_append]
  congr 1
  refine sorted_ext sorted_cand List.pairwise_lt_range fun k => ?_
  rw [mem_cand, List.mem_range]
  exact ⟨fun h => h.2.1, fun h => ⟨Nat.zero_le _, h, rfl⟩⟩
end
end MB
end Go.Proofs.Ytmgkeeefbfefgaa
