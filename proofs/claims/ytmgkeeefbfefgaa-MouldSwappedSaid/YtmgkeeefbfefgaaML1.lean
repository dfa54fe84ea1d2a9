/- Wants and days: as few days as the greatest load. The plain law. No condition. -/
namespace Go.Proofs.Ytmgkeeefbfefgaa
set_option linter.unusedSimpArgs false
set_option linter.unusedVariables false
set_option linter.defProp false
set_option linter.unusedSectionVars false
namespace MB
/-- A list without twice the same number, all of them in another one, is no longer. -/
theorem nodup_le : ∀ {l m : List Nat}, l.Nodup → (∀ x ∈ l, x ∈ m) → l.length ≤ m.length
  | [], _, _, _ => by simp
  | x :: l, m, hn, h => by
    obtain ⟨h1, h2⟩ := List.nodup_cons.1 hn
    have h3 := nodup_le (l := l) (m := m.erase x) h2 (fun y hy => (List.mem_erase_of_ne (fun e => h1 (by rw [← e]; exact hy))).2 (h y (List.mem_cons_of_mem _ hy)))
    have hx := h x List.mem_cons_self
    rw [List.length_erase_of_mem hx] at h3
    have h4 := List.length_pos_of_mem hx
    rw [List.length_cons]
    omega
/-- How many numbers below one are such. -/
def cnt (P : Nat → Bool) (n : Nat) : Nat := ((List.range n).filter P).length
theorem cnt_succ (P : Nat → Bool) (n : Nat) : cnt P (n + 1) = cnt P n + if P n = true then 1 else 0 := by
  rw [cnt, List.range_succ, List.filter_append, List.length_append]
  cases h : P n <;> simp [h, cnt]
theorem cnt_zero (P : Nat → Bool) : cnt P 0 = 0 := rfl
theorem cnt_le (P : Nat → Bool) (n : Nat) : cnt P n ≤ n := by
  have := List.length_filter_le P (List.range n)
  rw [List.length_range] at this
  exact this
/-- Fewer than there are colours: one is missing. -/
theorem missing {P : Nat → Bool} {c : Nat → Nat} {n D : Nat} (h : cnt P n < D) : ∃ a, a < D ∧ ∀ i, i < n → P i = true → c i ≠ a := by
  apply Classical.byContradiction
  intro hh
  have h1 : ∀ a, a < D → ∃ i, i < n ∧ P i = true ∧ c i = a := by
    intro a ha
    apply Classical.byContradiction
    intro h2
    exact hh ⟨a, ha, fun i hi hp he => h2 ⟨i, hi, hp, he⟩⟩
  have h2 := nodup_le (l := List.range D) (m := ((List.range n).filter P).map c) List.nodup_range (fun a ha => by
    obtain ⟨i, hi, hp, he⟩ := h1 a (List.mem_range.1 ha)
    exact List.mem_map.2 ⟨i, List.mem_filter.2 ⟨List.mem_range.2 hi, hp⟩, he⟩)
  rw [List.length_range, List.length_map] at h2
  exact absurd h (Nat.not_lt.2 h2)
/-- Days are right. -/
def right (sh mo c : Nat → Nat) (n : Nat) : Prop := ∀ i k, i < n → k < n → i ≠ k → c i = c k → sh i ≠ sh k ∧ mo i ≠ mo k
/-- The wants of two colours that are reached from a mould, by the first colour. -/
inductive Rch (sh mo c : Nat → Nat) (n a b m : Nat) : Nat → Prop
  | base (i : Nat) : i < n → mo i = m → c i = a → Rch sh mo c n a b m i
  | bys (i k : Nat) : Rch sh mo c n a b m i → c i = a → k < n → sh k = sh i → c k = b → Rch sh mo c n a b m k
  | bym (i k : Nat) : Rch sh mo c n a b m i → c i = b → k < n → mo k = mo i → c k = a → Rch sh mo c n a b m k
theorem Rch.lt {sh mo c : Nat → Nat} {n a b m i : Nat} (h : Rch sh mo c n a b m i) : i < n := by cases h <;> assumption
theorem Rch.two {sh mo c : Nat → Nat} {n a b m i : Nat} (h : Rch sh mo c n a b m i) : c i = a ∨ c i = b := by
  cases h with
  | base _ _ _ h => exact .inl h
  | bys _ _ _ _ _ _ h => exact .inr h
  | bym _ _ _ _ _ _ h => exact .inl h
theorem Rch.closed {sh mo c : Nat → Nat} {n a b m i k : Nat} (R : right sh mo c n) (hab : a ≠ b) (hb : ∀ i, i < n → mo i = m → c i ≠ b) (h : Rch sh mo c n a b m i) (hk : k < n) (hc : c k = a ∨ c k = b) (hcl : sh i = sh k ∨ mo i = mo k) : Rch sh mo c n a b m k := by
  by_cases hik : i = k
  · exact hik ▸ h
  have hi := h.lt
  have same : c i = c k → False := fun e => by
    have := R i k hi hk hik e
    rcases hcl with h1 | h1
    · exact this.1 h1
    · exact this.2 h1
  rcases h.two with hia | hib
  · rcases hc with hka | hkb
    · exact (same (hia.trans hka.symm)).elim
    · rcases hcl with h1 | h1
      · exact .bys i k h hia hk h1.symm hkb
      · cases h with
        | base _ _ hm _ => exact absurd hkb (hb k hk (h1.symm.trans hm))
        | bys _ _ _ _ _ _ h2 => exact absurd (hia.symm.trans h2) hab
        | bym j _ hj hjb _ hm _ =>
          by_cases hjk : j = k
          · exact hjk ▸ hj
          · exact absurd (hm.symm.trans h1) (R j k hj.lt hk hjk (hjb.trans hkb.symm)).2
  · rcases hc with hka | hkb
    · rcases hcl with h1 | h1
      · cases h with
        | base _ _ _ h2 => exact absurd (h2.symm.trans hib) hab
        | bys j _ hj hja _ hs _ =>
          by_cases hjk : j = k
          · exact hjk ▸ hj
          · exact absurd (hs.symm.trans h1) (R j k hj.lt hk hjk (hja.trans hka.symm)).1
        | bym _ _ _ _ _ _ h2 => exact absurd (h2.symm.trans hib) hab
      · exact .bym i k h hib hk h1.symm hka
    · exact (same (hib.trans hkb.symm)).elim
/-- One want more, with a colour that is missing at both. -/
theorem right_add {sh mo c : Nat → Nat} {n a : Nat} (R : right sh mo c n) (hs : ∀ i, i < n → sh i = sh n → c i ≠ a) (hm : ∀ i, i < n → mo i = mo n → c i ≠ a) : right sh mo (fun i => if i = n then a else c i) (n + 1) := by
  intro i k hi hk hik he
  simp only at he
  by_cases h1 : i = n
  · subst h1
    have hk' : k < i := by omega
    rw [if_pos rfl, if_neg (by omega)] at he
    exact ⟨fun e => hs k hk' e.symm he.symm, fun e => hm k hk' e.symm he.symm⟩
  · by_cases h2 : k = n
    · subst h2
      have hi' : i < k := by omega
      rw [if_neg h1, if_pos rfl] at he
      exact ⟨fun e => hs i hi' e he, fun e => hm i hi' e he⟩
    · rw [if_neg h1, if_neg h2] at he
      exact R i k (by omega) (by omega) hik he
open Classical in
theorem colour_step {sh mo : Nat → Nat} {n D : Nat} (h : ∃ c, right sh mo c n ∧ ∀ i, i < n → c i < D) (hs : cnt (fun i => sh i == sh n) n < D) (hm : cnt (fun i => mo i == mo n) n < D) : ∃ c, right sh mo c (n + 1) ∧ ∀ i, i < n + 1 → c i < D := by
  obtain ⟨c, R, hlt⟩ := h
  obtain ⟨a, haD, ha⟩ := missing (c := c) hs
  obtain ⟨b, hbD, hb⟩ := missing (c := c) hm
  replace ha : ∀ i, i < n → sh i = sh n → c i ≠ a := fun i hi he => ha i hi (by simpa using he)
  replace hb : ∀ i, i < n → mo i = mo n → c i ≠ b := fun i hi he => hb i hi (by simpa using he)
  have fin : ∀ c' : Nat → Nat, right sh mo c' n → (∀ i, i < n → c' i < D) → (∀ i, i < n → sh i = sh n → c' i ≠ a) → (∀ i, i < n → mo i = mo n → c' i ≠ a) → ∃ c, right sh mo c (n + 1) ∧ ∀ i, i < n + 1 → c i < D := fun c' R' hlt' h1 h2 => ⟨_, right_add R' h1 h2, fun i hi => by
    show (if i = n then a else c' i) < D
    split
    · exact haD
    · exact hlt' i (by omega)⟩
  by_cases hma : ∀ i, i < n → mo i = mo n → c i ≠ a
  · exact fin c R hlt ha hma
  have hab : a ≠ b := fun e => hma (e ▸ hb)
  refine fin (fun i => if Rch sh mo c n a b (mo n) i then (if c i = a then b else a) else c i) ?_ ?_ ?_ ?_
  · intro i k hi hk hik he
    simp only at he
    by_cases h1 : Rch sh mo c n a b (mo n) i
    · by_cases h2 : Rch sh mo c n a b (mo n) k
      · rw [if_pos h1, if_pos h2] at he
        refine R i k hi hk hik ?_
        rcases h1.two with e1 | e1 <;> rcases h2.two with e2 | e2
        · exact e1.trans e2.symm
        · rw [if_pos e1, if_neg (fun e => hab (e.symm.trans e2))] at he
          exact absurd he.symm hab
        · rw [if_neg (fun e => hab (e.symm.trans e1)), if_pos e2] at he
          exact absurd he hab
        · exact e1.trans e2.symm
      · rw [if_pos h1, if_neg h2] at he
        have hck : c k = a ∨ c k = b := by
          rw [← he]
          split
          · exact .inr rfl
          · exact .inl rfl
        exact ⟨fun e => h2 (h1.closed R hab hb hk hck (.inl e)), fun e => h2 (h1.closed R hab hb hk hck (.inr e))⟩
    · by_cases h2 : Rch sh mo c n a b (mo n) k
      · rw [if_neg h1, if_pos h2] at he
        have hci : c i = a ∨ c i = b := by
          rw [he]
          split
          · exact .inr rfl
          · exact .inl rfl
        exact ⟨fun e => h1 (h2.closed R hab hb hi hci (.inl e.symm)), fun e => h1 (h2.closed R hab hb hi hci (.inr e.symm))⟩
      · rw [if_neg h1, if_neg h2] at he
        exact R i k hi hk hik he
  · intro i hi
    show (if Rch sh mo c n a b (mo n) i then (if c i = a then b else a) else c i) < D
    split
    · split
      · exact hbD
      · exact haD
    · exact hlt i hi
  · intro i hi hsi he
    try simp only at he
    by_cases h1 : Rch sh mo c n a b (mo n) i
    · rw [if_pos h1] at he
      have hib : c i = b := by
        rcases h1.two with e | e
        · rw [if_pos e] at he; exact absurd he.symm hab
        · exact e
      cases h1 with
      | base _ _ _ h2 => exact hab (h2.symm.trans hib)
      | bys j _ hj hja _ h3 _ => exact ha j hj.lt (h3.symm.trans hsi) hja
      | bym _ _ _ _ _ _ h2 => exact hab (h2.symm.trans hib)
    · rw [if_neg h1] at he
      exact ha i hi hsi he
  · intro i hi hmi he
    try simp only at he
    by_cases h1 : Rch sh mo c n a b (mo n) i
    · rw [if_pos h1] at he
      have hib : c i = b := by
        rcases h1.two with e | e
        · rw [if_pos e] at he; exact absurd he.symm hab
        · exact e
      exact hb i hi hmi hib
    · rw [if_neg h1] at he
      exact h1 (.base i hi hmi he)
/-- As many colours as the greatest load are enough. -/
theorem colour {sh mo : Nat → Nat} {D : Nat} : ∀ n, (∀ x, cnt (fun i => sh i == x) n ≤ D) → (∀ x, cnt (fun i => mo i == x) n ≤ D) → ∃ c, right sh mo c n ∧ ∀ i, i < n → c i < D
  | 0, _, _ => ⟨fun _ => 0, fun i k hi => by omega, fun i hi => by omega⟩
  | n + 1, hs, hm => by
    have e1 : ∀ (f : Nat → Nat) x, cnt (fun i => f i == x) n ≤ cnt (fun i => f i == x) (n + 1) := fun f x => by rw [cnt_succ]; omega
    refine colour_step (colour n (fun x => Nat.le_trans (e1 sh x) (hs x)) (fun x => Nat.le_trans (e1 mo x) (hm x))) ?_ ?_
    · have := hs (sh n); rw [cnt_succ, if_pos (by simp)] at this; omega
    · have := hm (mo n); rw [cnt_succ, if_pos (by simp)] at this; omega
/-- No fewer colours than any load. -/
theorem load_le {sh mo c : Nat → Nat} {n D : Nat} (R : right sh mo c n) (hlt : ∀ i, i < n → c i < D) : (∀ x, cnt (fun i => sh i == x) n ≤ D) ∧ ∀ x, cnt (fun i => mo i == x) n ≤ D := by
  have key : ∀ f : Nat → Nat, (∀ i k, i < n → k < n → i ≠ k → c i = c k → f i ≠ f k) → ∀ x, cnt (fun i => f i == x) n ≤ D := fun f hf x => by
    have h1 : (((List.range n).filter (fun i => f i == x)).map c).Nodup := by
      rw [List.Nodup, List.pairwise_map]
      refine (List.Pairwise.filter _ List.nodup_range).imp_of_mem fun {i k} hi hk hik he => ?_
      obtain ⟨hi1, hi2⟩ := List.mem_filter.1 hi
      obtain ⟨hk1, hk2⟩ := List.mem_filter.1 hk
      simp only [beq_iff_eq] at hi2 hk2
      exact hf i k (List.mem_range.1 hi1) (List.mem_range.1 hk1) hik he (hi2.trans hk2.symm)
    have h2 := nodup_le (m := List.range D) h1 (fun a ha => by
      obtain ⟨i, hi, rfl⟩ := List.mem_map.1 ha
      exact List.mem_range.2 (hlt i (List.mem_range.1 (List.mem_filter.1 hi).1)))
    rw [List.length_map, List.length_range] at h2
    exact h2
  exact ⟨key sh fun i k hi hk hik he => (R i k hi hk hik he).1, key mo fun i k hi hk hik he => (R i k hi hk hik he).2⟩
end MB
end Go.Proofs.Ytmgkeeefbfefgaa
