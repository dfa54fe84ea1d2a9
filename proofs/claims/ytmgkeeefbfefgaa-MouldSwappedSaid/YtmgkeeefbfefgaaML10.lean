/- Chains, and days that are swapped: the plain law. No condition. -/
import Derived.Test.YtmgkeeefbfefgaaML6
namespace Go.Proofs.Ytmgkeeefbfefgaa
set_option linter.unusedSimpArgs false
set_option linter.unusedVariables false
set_option linter.defProp false
set_option linter.unusedSectionVars false
namespace MB
variable {sh mo c : Nat → Nat} {n w d : Nat}
/-- The chain of a want by a second day. -/
inductive Ch (sh mo c : Nat → Nat) (n w d : Nat) : Nat → Prop
  | base : Ch sh mo c n w d w
  | step (i k : Nat) : Ch sh mo c n w d i → k < n → clash sh mo i k = true → (c k = c w ∨ c k = d) → Ch sh mo c n w d k
theorem Ch.col {i : Nat} (h : Ch sh mo c n w d i) : c i = c w ∨ c i = d := by
  cases h with
  | base => exact .inl rfl
  | step _ _ _ _ _ h => exact h
theorem Ch.lt {i : Nat} (hw : w < n) (h : Ch sh mo c n w d i) : i < n := by
  cases h with
  | base => exact hw
  | step _ _ _ h _ _ => exact h
/-- The other one of both days. -/
def oth (c : Nat → Nat) (w d x : Nat) : Nat := if x = d then c w else d
theorem oth_col {x : Nat} (h : x = c w ∨ x = d) : oth c w d x = c w ∨ oth c w d x = d := by
  unfold oth
  split
  · exact .inl rfl
  · exact .inr rfl
theorem oth_oth {x : Nat} (hne : c w ≠ d) (h : x = c w ∨ x = d) : oth c w d (oth c w d x) = x := by
  have e1 : oth c w d (c w) = d := if_neg hne
  have e2 : oth c w d d = c w := if_pos rfl
  rcases h with h | h
  · rw [h, e1, e2]
  · rw [h, e2, e1]
theorem oth_inj {x y : Nat} (hne : c w ≠ d) (hx : x = c w ∨ x = d) (hy : y = c w ∨ y = d) (h : oth c w d x = oth c w d y) : x = y := by rw [← oth_oth hne hx, h, oth_oth hne hy]
open Classical in
/-- The days when the chain is swapped. -/
noncomputable def swp (sh mo c : Nat → Nat) (n w d : Nat) (i : Nat) : Nat := if Ch sh mo c n w d i then oth c w d (c i) else c i
theorem swp_in {i : Nat} (h : Ch sh mo c n w d i) : swp sh mo c n w d i = oth c w d (c i) := if_pos h
theorem swp_out {i : Nat} (h : ¬ Ch sh mo c n w d i) : swp sh mo c n w d i = c i := if_neg h
/-- Swapped days are right. -/
theorem swp_right (R : right sh mo c n) (hne : c w ≠ d) : right sh mo (swp sh mo c n w d) n := by
  intro i k hi hk hik he
  have no : ∀ {i k : Nat}, i < n → k < n → Ch sh mo c n w d i → ¬ Ch sh mo c n w d k → swp sh mo c n w d i = swp sh mo c n w d k → sh i ≠ sh k ∧ mo i ≠ mo k := fun {i k} hi hk h1 h2 he => by
    rw [swp_in h1, swp_out h2] at he
    have hc : c k = c w ∨ c k = d := he ▸ oth_col h1.col
    have : clash sh mo i k = false := by
      cases hcl : clash sh mo i k with
      | false => rfl
      | true => exact absurd (.step i k h1 hk hcl hc) h2
    exact clash_no.1 this
  by_cases h1 : Ch sh mo c n w d i <;> by_cases h2 : Ch sh mo c n w d k
  · rw [swp_in h1, swp_in h2] at he
    exact R i k hi hk hik (oth_inj hne h1.col h2.col he)
  · exact no hi hk h1 h2 he
  · have := no hk hi h2 h1 he.symm
    exact ⟨fun e => this.1 e.symm, fun e => this.2 e.symm⟩
  · rw [swp_out h1, swp_out h2] at he
    exact R i k hi hk hik he
theorem Ch.trans {i : Nat} {k e : Nat} (hk : Ch sh mo c n w d k) (hc : ∀ x, x = c k ∨ x = e → x = c w ∨ x = d) (h : Ch sh mo c n k e i) : Ch sh mo c n w d i := by
  induction h with
  | base => exact hk
  | step i j _ hj hcl hcol ih => exact .step i j ih hj hcl (hc _ hcol)
theorem Ch.back {i k e : Nat} (hw : w < n) (h : Ch sh mo c n w d i) (hc : ∀ x, x = c w ∨ x = d → x = c k ∨ x = e) (hi : Ch sh mo c n k e i) : Ch sh mo c n k e w := by
  induction h with
  | base => exact hi
  | step i j h1 hj hcl hcol ih =>
    refine ih (.step j i hi (h1.lt hw) (by rw [clash_comm]; exact hcl) (hc _ h1.col))
/-- The chain of any want of a chain, by the other day, is the same. -/
theorem Ch.same {k e : Nat} (hw : w < n) (hk : Ch sh mo c n w d k) (hc : ∀ x, (x = c k ∨ x = e) ↔ (x = c w ∨ x = d)) (i : Nat) : Ch sh mo c n k e i ↔ Ch sh mo c n w d i :=
  ⟨fun h => hk.trans (fun x => (hc x).1) h, fun h => Ch.trans (Ch.back hw hk (fun x => (hc x).2) .base) (fun x => (hc x).2) h⟩
theorem oth_pair {k : Nat} (hne : c w ≠ d) (h : c k = c w ∨ c k = d) (x : Nat) : (x = c k ∨ x = oth c w d (c k)) ↔ (x = c w ∨ x = d) := by
  unfold oth
  rcases h with h | h
  · rw [h, if_neg hne]
  · rw [h, if_pos rfl]; exact ⟨Or.symm, Or.symm⟩
/-- Chains of swapped days. -/
theorem Ch.swap {k i : Nat} (hw : w < n) (hne : c w ≠ d) (hk : Ch sh mo c n w d k) : Ch sh mo (swp sh mo c n w d) n k (c k) i ↔ Ch sh mo c n w d i := by
  have hp := oth_pair hne hk.col
  have h1 : ∀ i, Ch sh mo c n k (oth c w d (c k)) i ↔ Ch sh mo c n w d i := Ch.same hw hk hp
  constructor
  · intro h
    refine (h1 i).1 ?_
    induction h with
    | base => exact .base
    | step i j _ hj hcl hcol ih =>
      by_cases hj2 : Ch sh mo c n w d j
      · exact (h1 j).2 hj2
      · rw [swp_out hj2, swp_in hk] at hcol
        exact .step i j ih hj hcl hcol.symm
  · intro h
    have h' := (h1 i).2 h
    clear h
    induction h' with
    | base => exact .base
    | step i j hij hj hcl hcol ih =>
      have hj2 : Ch sh mo c n w d j := (h1 j).1 (.step i j hij hj hcl hcol)
      refine .step i j ih hj hcl ?_
      rw [swp_in hj2, swp_in hk]
      rcases hcol with e | e
      · exact .inl (by rw [e])
      · exact .inr (by rw [e, oth_oth hne hk.col])
theorem swp_back {k i : Nat} (hw : w < n) (hne : c w ≠ d) (hk : Ch sh mo c n w d k) : swp sh mo (swp sh mo c n w d) n k (c k) i = c i := by
  by_cases h : Ch sh mo c n w d i
  · rw [swp_in ((Ch.swap hw hne hk).2 h), swp_in h]
    unfold oth
    rw [swp_in hk]
    unfold oth
    rcases hk.col with a | a <;> rcases h.col with b | b
    · rw [a, b, if_neg hne, if_neg (Ne.symm hne)]
    · rw [a, b, if_pos rfl, if_neg hne, if_pos rfl]
    · rw [a, b, if_neg hne, if_pos rfl, if_pos rfl]
    · rw [a, b, if_pos rfl, if_neg hne]
  · rw [swp_out (fun h2 => h ((Ch.swap hw hne hk).1 h2)), swp_out h]
/-- The document's marks, want by want. -/
def cst (sh mo c : Nat → Nat) (n w d : Nat) (S : Nat → Bool) (i : Nat) : Nat → Bool := fun x => if x = i then S i || (List.range n).any (fun k => S k && !(i == k) && clash sh mo i k && (c i == c w || c i == d)) else S x
def cps (sh mo c : Nat → Nat) (n w d : Nat) (S : Nat → Bool) : Nat → Nat → Bool
  | 0 => S
  | i + 1 => cst sh mo c n w d (cps sh mo c n w d S i) i
def cit (sh mo c : Nat → Nat) (n w d : Nat) : Nat → Nat → Bool
  | 0 => fun x => x == w
  | r + 1 => cps sh mo c n w d (cit sh mo c n w d r) n
theorem cps_up {S : Nat → Bool} {x : Nat} : ∀ {i j : Nat}, i ≤ j → cps sh mo c n w d S i x = true → cps sh mo c n w d S j x = true
  | i, 0, h, hx => by
    have : i = 0 := by omega
    subst this
    exact hx
  | i, j + 1, h, hx => by
    by_cases e : i = j + 1
    · rw [← e]; exact hx
    · have h1 := cps_up (i := i) (j := j) (by omega) hx
      rw [cps]
      unfold cst
      split
      · rename_i e; subst e; rw [h1]; rfl
      · exact h1
theorem cit_ch (hw : w < n) : ∀ (r x : Nat), cit sh mo c n w d r x = true → Ch sh mo c n w d x
  | 0, x, h => by
    have : x = w := by simpa [cit] using h
    rw [this]
    exact .base
  | r + 1, x, h => by
    rw [cit] at h
    have hi := cit_ch hw r
    generalize cit sh mo c n w d r = S at h hi
    have key : ∀ i, i ≤ n → ∀ x, cps sh mo c n w d S i x = true → Ch sh mo c n w d x := fun i => by
      induction i with
      | zero => exact fun _ x hx => hi x hx
      | succ i ih =>
        intro hin x hx
        have ih := ih (by omega)
        rw [cps] at hx
        unfold cst at hx
        split at hx
        · rename_i e
          subst e
          rw [Bool.or_eq_true, List.any_eq_true] at hx
          rcases hx with hx | ⟨k, hk, hx⟩
          · exact ih _ hx
          · simp only [Bool.and_eq_true, Bool.or_eq_true, beq_iff_eq] at hx
            exact .step k x (ih k hx.1.1.1) (by omega) (by rw [clash_comm]; exact hx.1.2) hx.2
        · exact ih x hx
    exact key n (Nat.le_refl _) x h
/-- Marks that do not change are closed. -/
theorem cps_closed {S : Nat → Bool} (h : ∀ x, x < n → cps sh mo c n w d S n x = S x) {i k : Nat} (hi : S i = true) (hin : i < n) (hk : k < n) (hcl : clash sh mo i k = true) (hcol : c k = c w ∨ c k = d) : S k = true := by
  by_cases e : k = i
  · rw [e]; exact hi
  rw [← h k hk]
  refine cps_up (i := k + 1) (by omega) ?_
  rw [cps]
  unfold cst
  rw [if_pos rfl, Bool.or_eq_true, List.any_eq_true]
  refine .inr ⟨i, List.mem_range.2 hin, ?_⟩
  have h0 : cps sh mo c n w d S k i = true := cps_up (i := 0) (Nat.zero_le _) hi
  simp only [Bool.and_eq_true, Bool.or_eq_true, beq_iff_eq, Bool.not_eq_true', beq_eq_false_iff_ne]
  exact ⟨⟨⟨h0, e⟩, by rw [clash_comm]; exact hcl⟩, hcol⟩
theorem cnt_sub {P Q : Nat → Bool} {n : Nat} (h : ∀ i, i < n → P i = true → Q i = true) : cnt P n ≤ cnt Q n ∧ (cnt P n = cnt Q n → ∀ i, i < n → Q i = P i) := by
  induction n with
  | zero => exact ⟨Nat.le_refl _, fun _ i hi => by omega⟩
  | succ n ih =>
    obtain ⟨h1, h2⟩ := ih fun i hi => h i (by omega)
    have h3 := h n (by omega)
    rw [cnt_succ, cnt_succ]
    by_cases hp : P n = true
    · have hq := h3 hp
      rw [if_pos hp, if_pos hq]
      refine ⟨by omega, fun e i hi => ?_⟩
      by_cases hin : i = n
      · rw [hin, hp, hq]
      · exact h2 (by omega) i (by omega)
    · rw [if_neg hp]
      by_cases hq : Q n = true
      · rw [if_pos hq]; exact ⟨by omega, fun e => by omega⟩
      · rw [if_neg hq]
        refine ⟨by omega, fun e i hi => ?_⟩
        by_cases hin : i = n
        · rw [hin]
          cases hp2 : P n with
          | true => exact absurd hp2 hp
          | false => cases hq2 : Q n with
            | true => exact absurd hq2 hq
            | false => rfl
        · exact h2 (by omega) i (by omega)
theorem cit_grow (hw : w < n) : ∀ r, (∀ x, x < n → cit sh mo c n w d (r + 1) x = cit sh mo c n w d r x) ∨ r + 2 ≤ cnt (cit sh mo c n w d (r + 1)) n := by
  have step : ∀ r, cnt (cit sh mo c n w d r) n ≤ cnt (cit sh mo c n w d (r + 1)) n ∧ (cnt (cit sh mo c n w d r) n = cnt (cit sh mo c n w d (r + 1)) n → ∀ x, x < n → cit sh mo c n w d (r + 1) x = cit sh mo c n w d r x) := fun r => cnt_sub fun i hi h => by
    rw [cit]
    exact cps_up (i := 0) (Nat.zero_le _) h
  have cong : ∀ {S T : Nat → Bool}, (∀ x, x < n → S x = T x) → ∀ i, i ≤ n → ∀ x, x < n → cps sh mo c n w d S i x = cps sh mo c n w d T i x := fun {S T} h i => by
    induction i with
    | zero => exact fun _ x hx => h x hx
    | succ i ih =>
      intro hin x hx
      have ih := ih (by omega)
      rw [cps, cps]
      unfold cst
      split
      · rename_i e
        rw [ih i (by omega)]
        congr 1
        have : ∀ l : List Nat, (∀ k, k ∈ l → k < n) → l.any (fun k => cps sh mo c n w d S i k && !(i == k) && clash sh mo i k && (c i == c w || c i == d)) = l.any (fun k => cps sh mo c n w d T i k && !(i == k) && clash sh mo i k && (c i == c w || c i == d)) := fun l => by
          induction l with
          | nil => intro _; rfl
          | cons y l ihl =>
            intro hl
            rw [List.any_cons, List.any_cons, ih y (hl y List.mem_cons_self), ihl fun k hk => hl k (List.mem_cons_of_mem _ hk)]
        exact this _ fun k hk => List.mem_range.1 hk
      · exact ih x hx
  intro r
  induction r with
  | zero =>
    obtain ⟨h1, h2⟩ := step 0
    have h3 : 1 ≤ cnt (cit sh mo c n w d 0) n := by
      have := load_pos (n := n) (f := fun x => x) hw
      exact this
    by_cases e : cnt (cit sh mo c n w d 0) n = cnt (cit sh mo c n w d (0 + 1)) n
    · exact .inl (h2 e)
    · exact .inr (by omega)
  | succ r ih =>
    obtain ⟨h1, h2⟩ := step (r + 1)
    rcases ih with ih | ih
    · refine .inl fun x hx => ?_
      rw [cit, cong ih n (Nat.le_refl _) x hx]
      rfl
    · by_cases e : cnt (cit sh mo c n w d (r + 1)) n = cnt (cit sh mo c n w d (r + 1 + 1)) n
      · exact .inl (h2 e)
      · exact .inr (by omega)
/-- The document's chain is the chain. -/
theorem cit_iff (hw : w < n) {x : Nat} (hx : x < n) : cit sh mo c n w d n x = true ↔ Ch sh mo c n w d x := by
  refine ⟨cit_ch hw n x, fun h => ?_⟩
  have hfix : ∀ x, x < n → cit sh mo c n w d (n + 1) x = cit sh mo c n w d n x := by
    rcases cit_grow (sh := sh) (mo := mo) (c := c) (d := d) hw n with h1 | h1
    · exact h1
    · have := cnt_le (cit sh mo c n w d (n + 1)) n
      omega
  have hb : cit sh mo c n w d n w = true := by
    have : ∀ r, cit sh mo c n w d r w = true := fun r => by
      induction r with
      | zero => simp [cit]
      | succ r ih => rw [cit]; exact cps_up (i := 0) (Nat.zero_le _) ih
    exact this n
  clear hx
  have : ∀ x, Ch sh mo c n w d x → cit sh mo c n w d n x = true := fun x hx => by
    induction hx with
    | base => exact hb
    | step i k hi hk hcl hcol ih => exact cps_closed (fun x hx => hfix x hx) ih (hi.lt hw) hk hcl hcol
  exact this x h
end MB
end Go.Proofs.Ytmgkeeefbfefgaa
