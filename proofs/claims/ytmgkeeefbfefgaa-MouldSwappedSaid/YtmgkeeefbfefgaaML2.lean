/- As many wants as there can be of which no two clash: the plain law of match. No condition. -/
import Derived.Test.YtmgkeeefbfefgaaML1
namespace Go.Proofs.Ytmgkeeefbfefgaa
set_option linter.unusedSimpArgs false
set_option linter.unusedVariables false
set_option linter.defProp false
set_option linter.unusedSectionVars false
namespace MB
theorem cnt_congr {P Q : Nat → Bool} {n : Nat} (h : ∀ i, i < n → P i = Q i) : cnt P n = cnt Q n := by
  induction n with
  | zero => rfl
  | succ n ih => rw [cnt_succ, cnt_succ, ih fun i hi => h i (by omega), h n (by omega)]
theorem cnt_set {P Q : Nat → Bool} {n a : Nat} (ha : a < n) (h : ∀ i, i ≠ a → P i = Q i) : cnt P n + (if Q a = true then 1 else 0) = cnt Q n + (if P a = true then 1 else 0) := by
  induction n with
  | zero => omega
  | succ n ih =>
    rw [cnt_succ, cnt_succ]
    by_cases hn : a = n
    · subst hn
      rw [cnt_congr (P := P) (Q := Q) fun i hi => h i (by omega)]
      omega
    · have h1 := ih (by omega)
      rw [h n (fun e => hn e.symm)]
      omega
theorem cnt_pos {P : Nat → Bool} {n : Nat} (h : 1 ≤ cnt P n) : ∃ i, i < n ∧ P i = true := by
  induction n with
  | zero => exact absurd h (by rw [cnt_zero]; omega)
  | succ n ih =>
    rw [cnt_succ] at h
    by_cases hp : P n = true
    · exact ⟨n, by omega, hp⟩
    · rw [if_neg hp] at h
      obtain ⟨i, hi, h1⟩ := ih h
      exact ⟨i, by omega, h1⟩
theorem cnt_mono {P : Nat → Bool} {n m : Nat} (h : n ≤ m) : cnt P n ≤ cnt P m := by
  induction m with
  | zero =>
    have e : n = 0 := by omega
    rw [e]
    exact Nat.le_refl _
  | succ m ih =>
    by_cases e : n = m + 1
    · rw [e]; exact Nat.le_refl _
    · rw [cnt_succ]; have := ih (by omega); omega
theorem cnt_one {P : Nat → Bool} {n i k : Nat} (h : cnt P n ≤ 1) (hi : i < n) (hk : k < n) (hpi : P i = true) (hpk : P k = true) : i = k := by
  apply Classical.byContradiction
  intro hne
  have h1 := nodup_le (l := [i, k]) (m := (List.range n).filter P) (by simp [hne]) (fun x hx => by
    simp only [List.mem_cons, List.not_mem_nil, or_false] at hx
    rcases hx with rfl | rfl
    · exact List.mem_filter.2 ⟨List.mem_range.2 hi, hpi⟩
    · exact List.mem_filter.2 ⟨List.mem_range.2 hk, hpk⟩)
  have h2 : ((List.range n).filter P).length ≤ 1 := h
  simp only [List.length_cons, List.length_nil] at h1
  omega
/-- Wants by mould, and moulds that are seen. -/
structure St where
  by_ : Nat → Option Nat
  seen : Nat → Bool
def St.mark (t : St) (m : Nat) : St := ⟨t.by_, fun x => if x = m then true else t.seen x⟩
def St.give (t : St) (m i : Nat) : St := ⟨fun x => if x = m then some i else t.by_ x, t.seen⟩
/-- One shop's wants, one after another. -/
def seekW (sh mo : Nat → Nat) (rec : Nat → St → Bool × St) (shop : Nat) : List Nat → St → Bool × St
  | [], t => (false, t)
  | i :: l, t =>
    if sh i ≠ shop ∨ t.seen (mo i) = true then seekW sh mo rec shop l t
    else match t.by_ (mo i) with
      | none => (true, (t.mark (mo i)).give (mo i) i)
      | some old =>
        if (rec (sh old) (t.mark (mo i))).1 = true then (true, (rec (sh old) (t.mark (mo i))).2.give (mo i) i)
        else seekW sh mo rec shop l (rec (sh old) (t.mark (mo i))).2
def seek (sh mo : Nat → Nat) (sm : List Nat) : Nat → Nat → St → Bool × St
  | 0, _, t => (false, t)
  | f + 1, shop, t => seekW sh mo (seek sh mo sm f) shop sm t
/-- The moulds of a shop. -/
def isOf (sh : Nat → Nat) (t : St) (s m : Nat) : Bool := match t.by_ m with | some i => sh i == s | none => false
def served (sh : Nat → Nat) (M : Nat) (t : St) (s : Nat) : Nat := cnt (isOf sh t s) M
structure Closed (sh mo : Nat → Nat) (sm : List Nat) (t : St) (Ds Dm : Nat → Prop) : Prop where
  m : ∀ m, Dm m → ∃ i, t.by_ m = some i ∧ Ds (sh i)
  s : ∀ i, i ∈ sm → Ds (sh i) → Dm (mo i)
structure Inv (mo : Nat → Nat) (sm : List Nat) (t : St) : Prop where
  ok : ∀ m i, t.by_ m = some i → i ∈ sm ∧ mo i = m
/-- What a search for a shop does. -/
structure Post (sh mo : Nat → Nat) (sm : List Nat) (M shop : Nat) (L : List Nat) (t : St) (r : Bool) (t' : St) : Prop where
  up : ∀ m, t.seen m = true → t'.seen m = true
  inv : Inv mo sm t'
  no : r = false → t'.by_ = t.by_ ∧ (∀ i, i ∈ L → sh i = shop → t'.seen (mo i) = true) ∧ ∀ m, t'.seen m = true → t.seen m ≠ true → ∃ i, t.by_ m = some i ∧ ∀ k, k ∈ sm → sh k = sh i → t'.seen (mo k) = true
  yes : r = true → (∀ s, served sh M t' s = served sh M t s + if s = shop then 1 else 0) ∧ (∀ m, t.seen m = true → t'.by_ m = t.by_ m) ∧ ∀ Ds Dm, Closed sh mo sm t Ds Dm → ¬ Ds shop ∧ ∀ m, Dm m → t'.by_ m = t.by_ m
def unseen (M : Nat) (t : St) : Nat := cnt (fun m => !t.seen m) M
theorem unseen_mark {M m : Nat} {t : St} (hm : m < M) (h : t.seen m ≠ true) : unseen M (t.mark m) + 1 = unseen M t := by
  have h1 := cnt_set (P := fun x => !(t.mark m).seen x) (Q := fun x => !t.seen x) hm (fun i hi => by
    show (!(if i = m then true else t.seen i)) = _
    rw [if_neg hi])
  have h2 : (t.mark m).seen m = true := by show (if m = m then true else t.seen m) = true; rw [if_pos rfl]
  simp only [h2, Bool.not_true, Bool.false_eq_true, if_false, Nat.add_zero] at h1
  have h3 : t.seen m = false := by simpa using h
  simp only [h3, Bool.not_false, if_true] at h1
  exact h1
theorem unseen_le {M : Nat} {t t' : St} (h : ∀ m, t.seen m = true → t'.seen m = true) : unseen M t' ≤ unseen M t := by
  unfold unseen
  induction M with
  | zero => exact Nat.le_refl _
  | succ M ih =>
    rw [cnt_succ, cnt_succ]
    have := h M
    cases h1 : t.seen M <;> cases h2 : t'.seen M <;> simp_all <;> omega
theorem served_by {sh : Nat → Nat} {M : Nat} {t t' : St} (h : t'.by_ = t.by_) (s : Nat) : served sh M t' s = served sh M t s := by
  unfold served
  exact cnt_congr fun i _ => by unfold isOf; rw [h]
theorem Closed.of_by {sh mo : Nat → Nat} {sm : List Nat} {t t' : St} {Ds Dm : Nat → Prop} (h : t'.by_ = t.by_) (c : Closed sh mo sm t Ds Dm) : Closed sh mo sm t' Ds Dm := ⟨fun m hm => by rw [h]; exact c.m m hm, c.s⟩
theorem Inv.of_by {mo : Nat → Nat} {sm : List Nat} {t t' : St} (h : t'.by_ = t.by_) (c : Inv mo sm t) : Inv mo sm t' := ⟨fun m i hi => c.ok m i (by rw [← h]; exact hi)⟩
theorem Inv.give {mo : Nat → Nat} {sm : List Nat} {t : St} {i : Nat} (c : Inv mo sm t) (hi : i ∈ sm) : Inv mo sm (t.give (mo i) i) := ⟨fun m j hj => by
  have hj : (if m = mo i then some i else t.by_ m) = some j := hj
  split at hj
  · cases hj; rename_i h; exact ⟨hi, h.symm⟩
  · exact c.ok m j hj⟩
theorem mark_self (t : St) (m : Nat) : (t.mark m).seen m = true := by show (if m = m then true else t.seen m) = true; rw [if_pos rfl]
theorem mark_up {t : St} {m x : Nat} (h : t.seen x = true) : (t.mark m).seen x = true := by
  show (if x = m then true else t.seen x) = true
  split
  · rfl
  · exact h
theorem mark_new {t : St} {m x : Nat} (h : (t.mark m).seen x = true) (h2 : t.seen x ≠ true) : x = m := by
  have h : (if x = m then true else t.seen x) = true := h
  split at h
  · assumption
  · exact absurd h h2
theorem served_give {sh mo : Nat → Nat} {M : Nat} {t : St} {i : Nat} (hm : mo i < M) (s : Nat) : served sh M (t.give (mo i) i) s + (if isOf sh t s (mo i) = true then 1 else 0) = served sh M t s + if s = sh i then 1 else 0 := by
  have h1 := cnt_set (P := isOf sh (t.give (mo i) i) s) (Q := isOf sh t s) hm (fun x hx => by
    unfold isOf
    rw [show (t.give (mo i) i).by_ x = t.by_ x from if_neg hx])
  have h2 : isOf sh (t.give (mo i) i) s (mo i) = (sh i == s) := by
    unfold isOf
    rw [show (t.give (mo i) i).by_ (mo i) = some i from if_pos rfl]
  rw [h2] at h1
  unfold served
  rw [h1]
  by_cases e : s = sh i
  · rw [if_pos e, if_pos (by simp [e])]
  · rw [if_neg e, if_neg (by simp [Ne.symm e])]
theorem seekW_post {sh mo : Nat → Nat} {sm : List Nat} {M shop f : Nat} {rec : Nat → St → Bool × St} (hmo : ∀ i, i ∈ sm → mo i < M)
    (hrec : ∀ s t, Inv mo sm t → unseen M t < f → Post sh mo sm M s sm t (rec s t).1 (rec s t).2) :
    ∀ (L : List Nat) (t : St), (∀ i, i ∈ L → i ∈ sm) → Inv mo sm t → unseen M t ≤ f → Post sh mo sm M shop L t (seekW sh mo rec shop L t).1 (seekW sh mo rec shop L t).2
  | [], t, hL, hI, hf => ⟨fun m h => h, hI, fun _ => ⟨rfl, fun i hi => absurd hi List.not_mem_nil, fun m h h2 => absurd h h2⟩, fun h => by cases h⟩
  | i :: l, t, hL, hI, hf => by
    have hi := hL i List.mem_cons_self
    have hL2 : ∀ j, j ∈ l → j ∈ sm := fun j hj => hL j (List.mem_cons_of_mem _ hj)
    by_cases h1 : sh i ≠ shop ∨ t.seen (mo i) = true
    · have e : seekW sh mo rec shop (i :: l) t = seekW sh mo rec shop l t := by rw [seekW, if_pos h1]
      rw [e]
      have P := seekW_post (shop := shop) hmo hrec l t hL2 hI hf
      refine ⟨P.up, P.inv, fun hr => ?_, P.yes⟩
      obtain ⟨p1, p2, p3⟩ := P.no hr
      refine ⟨p1, fun j hj hs => ?_, p3⟩
      rcases List.mem_cons.1 hj with rfl | hj
      · rcases h1 with h1 | h1
        · exact absurd hs h1
        · exact P.up _ h1
      · exact p2 j hj hs
    have hsi : sh i = shop := Classical.not_not.1 fun h => h1 (.inl h)
    have hun : t.seen (mo i) ≠ true := fun h => h1 (.inr h)
    have hM := hmo i hi
    have hu := unseen_mark hM hun
    have hI1 : Inv mo sm (t.mark (mo i)) := Inv.of_by (t := t) rfl hI
    cases hb : t.by_ (mo i) with
    | none =>
      have e : seekW sh mo rec shop (i :: l) t = (true, (t.mark (mo i)).give (mo i) i) := by rw [seekW, if_neg h1, hb]
      rw [e]
      refine ⟨fun m h => mark_up h, hI1.give hi, fun h => Bool.noConfusion h, fun _ => ⟨fun s => ?_, fun m hm => ?_, fun Ds Dm c => ⟨fun hs => ?_, fun m hm => ?_⟩⟩⟩
      · have h2 := served_give (sh := sh) (mo := mo) (t := t.mark (mo i)) hM s
        have h3 : isOf sh (t.mark (mo i)) s (mo i) = false := by
          unfold isOf
          rw [show (t.mark (mo i)).by_ (mo i) = none from hb]
        rw [h3, hsi, served_by (t := t) (t' := t.mark (mo i)) rfl] at h2
        simpa using h2
      · exact if_neg (fun e : m = mo i => hun (e ▸ hm))
      · obtain ⟨j, hj, _⟩ := c.m _ (c.s i hi (hsi.symm ▸ hs))
        rw [hb] at hj; cases hj
      · refine if_neg (fun e => ?_)
        obtain ⟨j, hj, _⟩ := c.m m hm
        rw [e, hb] at hj; cases hj
    | some old =>
      have P1 := hrec (sh old) (t.mark (mo i)) hI1 (by omega)
      obtain ⟨r1, hr1⟩ : ∃ r, (rec (sh old) (t.mark (mo i))).1 = r := ⟨_, rfl⟩
      obtain ⟨t2, ht2⟩ : ∃ r, (rec (sh old) (t.mark (mo i))).2 = r := ⟨_, rfl⟩
      rw [hr1, ht2] at P1
      cases r1 with
      | true =>
        have e : seekW sh mo rec shop (i :: l) t = (true, t2.give (mo i) i) := by rw [seekW, if_neg h1, hb]; simp only [hr1, ht2, if_true]
        rw [e]
        obtain ⟨q1, q2, q3⟩ := P1.yes rfl
        have hb2 : t2.by_ (mo i) = some old := (q2 _ (mark_self t (mo i))).trans hb
        refine ⟨fun m h => P1.up m (mark_up h), P1.inv.give hi, fun h => Bool.noConfusion h, fun _ => ⟨fun s => ?_, fun m hm => ?_, fun Ds Dm c => ?_⟩⟩
        · have h2 := served_give (sh := sh) (mo := mo) (t := t2) hM s
          have h3 : isOf sh t2 s (mo i) = (sh old == s) := by unfold isOf; rw [hb2]
          rw [h3, q1 s, served_by (t := t) (t' := t.mark (mo i)) rfl, hsi] at h2
          by_cases e : s = sh old
          · rw [if_pos e, if_pos (by simp [e])] at h2
            show served sh M (t2.give (mo i) i) s = _
            omega
          · rw [if_neg e, if_neg (by simp [Ne.symm e])] at h2
            show served sh M (t2.give (mo i) i) s = _
            omega
        · have : (t2.give (mo i) i).by_ m = t2.by_ m := if_neg (fun e : m = mo i => hun (e ▸ hm))
          show (t2.give (mo i) i).by_ m = _
          rw [this, q2 m (mark_up hm)]
          rfl
        · obtain ⟨z1, z2⟩ := q3 Ds Dm (Closed.of_by (t := t) rfl c)
          refine ⟨fun hs => ?_, fun m hm => ?_⟩
          · obtain ⟨j, hj, hd⟩ := c.m _ (c.s i hi (hsi.symm ▸ hs))
            rw [hb] at hj; cases hj
            exact z1 hd
          · have hne : m ≠ mo i := fun e => by
              obtain ⟨j, hj, hd⟩ := c.m m hm
              rw [e, hb] at hj; cases hj
              exact z1 hd
            have : (t2.give (mo i) i).by_ m = t2.by_ m := if_neg hne
            show (t2.give (mo i) i).by_ m = _
            rw [this, z2 m hm]
            rfl
      | false =>
        have e : seekW sh mo rec shop (i :: l) t = seekW sh mo rec shop l t2 := by rw [seekW, if_neg h1, hb]; simp only [hr1, ht2, Bool.false_eq_true, if_false]
        rw [e]
        obtain ⟨q1, q2, q3⟩ := P1.no rfl
        have hby : t2.by_ = t.by_ := q1
        have hu2 := unseen_le (M := M) P1.up
        have P2 := seekW_post (shop := shop) hmo hrec l t2 hL2 P1.inv (by omega)
        refine ⟨fun m h => P2.up m (P1.up m (mark_up h)), P2.inv, fun hr => ?_, fun hr => ?_⟩
        · obtain ⟨p1, p2, p3⟩ := P2.no hr
          refine ⟨p1.trans hby, fun j hj hs => ?_, fun m hm hn => ?_⟩
          · rcases List.mem_cons.1 hj with rfl | hj
            · exact P2.up _ (P1.up _ (mark_self t _))
            · exact p2 j hj hs
          · by_cases h2 : t2.seen m = true
            · by_cases h3 : (t.mark (mo i)).seen m = true
              · obtain rfl := mark_new h3 hn
                exact ⟨old, hb, fun k hk hs => P2.up _ (q2 k hk hs)⟩
              · obtain ⟨j, hj, hk⟩ := q3 m h2 h3
                exact ⟨j, hj, fun k hk1 hs => P2.up _ (hk k hk1 hs)⟩
            · obtain ⟨j, hj, hk⟩ := p3 m hm h2
              exact ⟨j, by rw [← hby]; exact hj, hk⟩
        · obtain ⟨p1, p2, p3⟩ := P2.yes hr
          refine ⟨fun s => by rw [p1 s, served_by hby], fun m hm => by rw [p2 m (P1.up m (mark_up hm)), hby], fun Ds Dm c => ?_⟩
          obtain ⟨z1, z2⟩ := p3 Ds Dm (c.of_by hby)
          exact ⟨z1, fun m hm => by rw [z2 m hm, hby]⟩
theorem seek_post {sh mo : Nat → Nat} {sm : List Nat} {M : Nat} (hmo : ∀ i, i ∈ sm → mo i < M) : ∀ (f shop : Nat) (t : St), Inv mo sm t → unseen M t < f → Post sh mo sm M shop sm t (seek sh mo sm f shop t).1 (seek sh mo sm f shop t).2
  | 0, _, _, _, h => absurd h (by omega)
  | f + 1, shop, t, hI, h => seekW_post hmo (fun s t hI h => seek_post hmo f s t hI h) sm t (fun i hi => hi) hI (by omega)
end MB
end Go.Proofs.Ytmgkeeefbfefgaa
