/- The first ones of the fewest days: the plain law. No condition. -/
import Derived.Test.YtmgkeeefbfefgaaML6
namespace Go.Proofs.Ytmgkeeefbfefgaa
set_option linter.unusedSimpArgs false
set_option linter.unusedVariables false
set_option linter.defProp false
set_option linter.unusedSectionVars false
namespace MB
variable {sh mo : Nat → Nat} {n D : Nat}
/-- The next want can have a day. -/
def fit (sh mo : Nat → Nat) (bg : List Nat) (d : Nat) : Bool := (List.range bg.length).all fun i => !(bg.getD i 0 == d && clash sh mo i bg.length)
def go (sh mo : Nat → Nat) (D : Nat) : Nat → List Nat → Option (List Nat)
  | 0, bg => some bg
  | k + 1, bg => (List.range D).findSome? fun d => if fit sh mo bg d then go sh mo D k (bg ++ [d]) else none
def rightL (sh mo : Nat → Nat) (l : List Nat) : Prop := right sh mo (fun i => l.getD i 0) l.length
theorem fit_iff {bg : List Nat} {d : Nat} : fit sh mo bg d = true ↔ ∀ i, i < bg.length → bg.getD i 0 = d → sh i ≠ sh bg.length ∧ mo i ≠ mo bg.length := by
  unfold fit
  rw [List.all_eq_true]
  constructor
  · intro h i hi he
    have := h i (List.mem_range.2 hi)
    rw [he] at this
    simp only [beq_self_eq_true, Bool.true_and, Bool.not_eq_true'] at this
    exact clash_no.1 this
  · intro h i hi
    by_cases he : bg.getD i 0 = d
    · rw [he, clash_no.2 (h i (List.mem_range.1 hi) he)]; simp
    · rw [(beq_eq_false_iff_ne).2 he]; rfl
theorem getD_snoc (bg : List Nat) (d i : Nat) : (bg ++ [d]).getD i 0 = if i = bg.length then d else bg.getD i 0 := by
  by_cases h : i < bg.length
  · rw [if_neg (by omega), List.getD_eq_getElem?_getD, List.getD_eq_getElem?_getD, List.getElem?_append_left h]
  · by_cases e : i = bg.length
    · subst e; rw [if_pos rfl, List.getD_eq_getElem?_getD, List.getElem?_append_right (Nat.le_refl _)]; simp
    · rw [if_neg e, List.getD_eq_getElem?_getD, List.getD_eq_getElem?_getD, List.getElem?_eq_none (by simp; omega), List.getElem?_eq_none (by omega)]
theorem right_snoc {bg : List Nat} {d : Nat} (R : rightL sh mo bg) (h : fit sh mo bg d = true) : rightL sh mo (bg ++ [d]) := by
  have h := fit_iff.1 h
  unfold rightL
  rw [List.length_append]
  have := right_add (sh := sh) (mo := mo) (c := fun i => bg.getD i 0) (n := bg.length) (a := d) R (fun i hi hs he => (h i hi he).1 hs) (fun i hi hm he => (h i hi he).2 hm)
  intro i k hi hk hik he
  refine this i k (by simpa using hi) (by simpa using hk) hik ?_
  simp only [getD_snoc] at he
  exact he
theorem go_sound : ∀ (k : Nat) (bg l : List Nat), rightL sh mo bg → (∀ x, x ∈ bg → x < D) → go sh mo D k bg = some l → l.length = bg.length + k ∧ rightL sh mo l ∧ ∀ x, x ∈ l → x < D
  | 0, bg, l, R, h, e => by
    rw [go] at e
    cases e
    exact ⟨rfl, R, h⟩
  | k + 1, bg, l, R, h, e => by
    rw [go] at e
    obtain ⟨d, hd, he⟩ := List.exists_of_findSome?_eq_some e
    by_cases hf : fit sh mo bg d = true
    · rw [if_pos hf] at he
      obtain ⟨h1, h2, h3⟩ := go_sound k (bg ++ [d]) l (right_snoc R hf) (fun x hx => by
        rcases List.mem_append.1 hx with hx | hx
        · exact h x hx
        · rw [List.mem_singleton.1 hx]; exact List.mem_range.1 hd) he
      rw [List.length_append] at h1
      simp only [List.length_cons, List.length_nil] at h1
      exact ⟨by omega, h2, h3⟩
    · rw [if_neg hf] at he; cases he
theorem go_some {c : Nat → Nat} : ∀ (k : Nat) (bg : List Nat), right sh mo c (bg.length + k) → (∀ i, i < bg.length + k → c i < D) → (∀ i, i < bg.length → bg.getD i 0 = c i) → (go sh mo D k bg).isSome = true
  | 0, bg, _, _, _ => rfl
  | k + 1, bg, R, h, hb => by
    rw [go, List.findSome?_isSome_iff]
    refine ⟨c bg.length, List.mem_range.2 (h _ (by omega)), ?_⟩
    have hf : fit sh mo bg (c bg.length) = true := fit_iff.2 fun i hi he => R i bg.length (by omega) (by omega) (by omega) ((hb i hi).symm.trans he)
    rw [if_pos hf]
    refine go_some (c := c) k (bg ++ [c bg.length]) ?_ ?_ ?_
    · rw [List.length_append]; exact fun i j hi hj => R i j (by simp at hi; omega) (by simp at hj; omega)
    · rw [List.length_append]; exact fun i hi => h i (by simp at hi; omega)
    · intro i hi
      rw [getD_snoc]
      rw [List.length_append] at hi
      simp only [List.length_cons, List.length_nil] at hi
      split
      · rename_i e; rw [e]
      · exact hb i (by omega)
/-- How many different numbers a list has. -/
def dif (l : List Nat) : Nat := cnt (fun i => !(l.take i).contains (l.getD i 0)) l.length
theorem take_snoc {l : List Nat} {k : Nat} (h : k < l.length) : l.take (k + 1) = l.take k ++ [l.getD k 0] := by
  rw [List.take_add_one, List.getD_eq_getElem?_getD, List.getElem?_eq_getElem h]
  rfl
theorem dif_take (l : List Nat) : ∀ k, k ≤ l.length → ∃ u : List Nat, u.Nodup ∧ (∀ x, x ∈ u ↔ x ∈ l.take k) ∧ u.length = cnt (fun i => !(l.take i).contains (l.getD i 0)) k
  | 0, _ => ⟨[], List.nodup_nil, fun x => by simp, rfl⟩
  | k + 1, h => by
    obtain ⟨u, h1, h2, h3⟩ := dif_take l k (by omega)
    rw [cnt_succ, take_snoc (by omega)]
    by_cases hm : l.getD k 0 ∈ l.take k
    · refine ⟨u, h1, fun x => ?_, ?_⟩
      · rw [List.mem_append, List.mem_singleton, h2]
        exact ⟨.inl, fun h => h.elim id fun e => e ▸ hm⟩
      · rw [if_neg (by simpa using hm), h3]; rfl
    · refine ⟨l.getD k 0 :: u, List.nodup_cons.2 ⟨fun h => hm ((h2 _).1 h), h1⟩, fun x => ?_, ?_⟩
      · rw [List.mem_append, List.mem_singleton, List.mem_cons, h2]
        exact ⟨fun h => h.elim .inr .inl, fun h => h.elim .inr .inl⟩
      · rw [if_pos (by simpa using hm), List.length_cons, h3]
theorem dif_ex (l : List Nat) : ∃ u : List Nat, u.Nodup ∧ (∀ x, x ∈ u ↔ x ∈ l) ∧ u.length = dif l := by
  obtain ⟨u, h1, h2, h3⟩ := dif_take l l.length (Nat.le_refl _)
  rw [List.take_of_length_le (Nat.le_refl _)] at h2
  exact ⟨u, h1, h2, h3⟩
theorem dif_le {l : List Nat} (h : ∀ x, x ∈ l → x < D) : dif l ≤ D := by
  obtain ⟨u, h1, h2, h3⟩ := dif_ex l
  have := nodup_le (m := List.range D) h1 fun x hx => List.mem_range.2 (h x ((h2 x).1 hx))
  rw [List.length_range] at this
  omega
theorem mem_getD {l : List Nat} {i : Nat} (h : i < l.length) : l.getD i 0 ∈ l := by
  rw [List.getD_eq_getElem?_getD, List.getElem?_eq_getElem h]
  exact List.getElem_mem h
/-- Right days have at least as many different numbers as any load. -/
theorem load_dif {l : List Nat} (R : rightL sh mo l) (x : Nat) : load sh l.length x ≤ dif l ∧ load mo l.length x ≤ dif l := by
  obtain ⟨u, h1, h2, h3⟩ := dif_ex l
  have key : ∀ f : Nat → Nat, (∀ i k, i < l.length → k < l.length → i ≠ k → l.getD i 0 = l.getD k 0 → f i ≠ f k) → load f l.length x ≤ dif l := fun f hf => by
    have h4 := nodup_le (l := ((List.range l.length).filter (fun i => f i == x)).map fun i => l.getD i 0) (m := u) (nodup_map (List.Pairwise.filter _ List.nodup_range) fun i k hi hk hik he => by
      obtain ⟨hi1, hi2⟩ := List.mem_filter.1 hi
      obtain ⟨hk1, hk2⟩ := List.mem_filter.1 hk
      simp only [beq_iff_eq] at hi2 hk2
      exact hf i k (List.mem_range.1 hi1) (List.mem_range.1 hk1) hik he (hi2.trans hk2.symm)) (fun a ha => by
      obtain ⟨i, hi, rfl⟩ := List.mem_map.1 ha
      exact (h2 _).2 (mem_getD (List.mem_range.1 (List.mem_filter.1 hi).1)))
    rw [List.length_map, h3] at h4
    exact h4
  exact ⟨key sh fun i k hi hk hik he => (R i k hi hk hik he).1, key mo fun i k hi hk hik he => (R i k hi hk hik he).2⟩
/-- The greatest load. -/
structure Great (sh mo : Nat → Nat) (n D : Nat) : Prop where
  sle : ∀ s, load sh n s ≤ D
  mle : ∀ m, load mo n m ≤ D
  is : D = 0 ∨ (∃ s, load sh n s = D) ∨ ∃ m, load mo n m = D
/-- The first days of all, below the greatest load: they are right, and as many. -/
theorem days_first (G : Great sh mo n D) : ∃ l, go sh mo D n [] = some l ∧ l.length = n ∧ rightL sh mo l ∧ (∀ x, x ∈ l → x < D) ∧ dif l = D := by
  obtain ⟨c, h1, h2⟩ := colour (sh := sh) (mo := mo) n G.sle G.mle
  have h3 := go_some (D := D) (c := c) n [] (by simpa using h1) (by simpa using h2) (fun i hi => absurd hi (by simp))
  obtain ⟨l, hl⟩ := Option.isSome_iff_exists.1 h3
  obtain ⟨h4, h5, h6⟩ := go_sound n [] l (fun i k hi => absurd hi (by simp)) (fun x hx => absurd hx List.not_mem_nil) hl
  have h4 : l.length = n := by simpa using h4
  refine ⟨l, hl, h4, h5, h6, Nat.le_antisymm (dif_le h6) ?_⟩
  rcases G.is with h | ⟨s, h⟩ | ⟨m, h⟩
  · omega
  · have := (load_dif h5 s).1; rw [h4, h] at this; exact this
  · have := (load_dif h5 m).2; rw [h4, h] at this; exact this
end MB
end Go.Proofs.Ytmgkeeefbfefgaa
