/- Shops that are left, in the order of their numbers. The plain law: no program. No condition. -/
import Derived.Test.YtoediaepoddonaaL4
namespace Go.Proofs.Ytoediaepoddonaa
set_option linter.unusedSimpArgs false
set_option linter.unusedVariables false
/-- The shops below one that are not had. -/
def freeL (out : List Nat) (s : Nat) : List Nat := (List.range s).filter fun k => decide (k ∉ out)
theorem freeL_succ (out : List Nat) (s : Nat) : freeL out (s + 1) = freeL out s ++ if s ∈ out then [] else [s] := by
  unfold freeL
  rw [List.range_succ, List.filter_append]
  congr 1
  by_cases h : s ∈ out <;> simp [h]
theorem freeL_pre {out : List Nat} : ∀ {s n : Nat}, s ≤ n → ∃ r, freeL out n = freeL out s ++ r
  | s, 0, h => ⟨[], by rw [show s = 0 by omega]; simp⟩
  | s, n + 1, h => by
    by_cases he : s = n + 1
    · exact ⟨[], by rw [he]; simp⟩
    · obtain ⟨r, hr⟩ := freeL_pre (out := out) (show s ≤ n by omega)
      exact ⟨r ++ (if n ∈ out then [] else [n]), by rw [freeL_succ, hr, List.append_assoc]⟩
theorem freeL_le {out : List Nat} {s n : Nat} (h : s ≤ n) : (freeL out s).length ≤ (freeL out n).length := by
  obtain ⟨r, hr⟩ := freeL_pre (out := out) h
  rw [hr, List.length_append]
  omega
theorem freeL_at {out : List Nat} {s n : Nat} (h : s < n) (ho : s ∉ out) : (freeL out s).length < (freeL out n).length ∧ (freeL out n).getD (freeL out s).length 0 = s := by
  obtain ⟨r, hr⟩ := freeL_pre (out := out) (show s + 1 ≤ n by omega)
  rw [freeL_succ, if_neg ho] at hr
  rw [hr]
  constructor
  · simp
  · rw [List.append_assoc, List.getD, List.getElem?_append_right (Nat.le_refl _)]
    simp
theorem freeL_nodup (out : List Nat) (n : Nat) : (freeL out n).Nodup := List.nodup_range.sublist List.filter_sublist
theorem erase_filter : ∀ {l : List Nat} {d : Nat}, d < l.length → l.Nodup → l.eraseIdx d = l.filter fun k => decide (k ≠ l.getD d 0)
  | x :: l, 0, _, h => by
    rw [List.nodup_cons] at h
    simp only [List.eraseIdx_cons_zero, List.getD_cons_zero]
    rw [List.filter_cons_of_neg (by simp)]
    symm
    rw [List.filter_eq_self]
    intro y hy
    have : y ≠ x := fun he => h.1 (he ▸ hy)
    simpa using this
  | x :: l, d + 1, hd, h => by
    rw [List.nodup_cons] at h
    have hd' : d < l.length := by simpa using hd
    simp only [List.eraseIdx_cons_succ, List.getD_cons_succ]
    have hm : l.getD d 0 ∈ l := by rw [List.getD, List.getElem?_eq_getElem hd']; exact List.getElem_mem hd'
    rw [List.filter_cons_of_pos, erase_filter hd' h.2]
    have : x ≠ l.getD d 0 := fun he => h.1 (he ▸ hm)
    simpa using this
theorem freeL_erase {out : List Nat} {n d : Nat} (hd : d < (freeL out n).length) : (freeL out n).eraseIdx d = freeL (out ++ [(freeL out n).getD d 0]) n := by
  rw [erase_filter hd (freeL_nodup _ _)]
  unfold freeL
  rw [List.filter_filter]
  apply List.filter_congr
  intro k _
  by_cases h1 : k ∈ out <;> simp [h1]
theorem freeL_nil (n : Nat) : freeL [] n = List.range n := by simp [freeL]
/-- The list of those that are left behind some places. -/
def restL : List Nat → List Nat → List Nat
  | l, [] => l
  | l, d :: ds => restL (l.eraseIdx d) ds
theorem ofDig_snoc : ∀ (ds l : List Nat) (d : Nat), ofDig l (ds ++ [d]) = ofDig l ds ++ [(restL l ds).getD d 0]
  | [], l, d => rfl
  | e :: ds, l, d => by simp [ofDig, restL, ofDig_snoc ds]
theorem restL_snoc : ∀ (ds l : List Nat) (d : Nat), restL l (ds ++ [d]) = (restL l ds).eraseIdx d
  | [], l, d => rfl
  | e :: ds, l, d => by simp [restL, restL_snoc ds]
theorem restL_length : ∀ (ds l : List Nat), fits l.length ds → (restL l ds).length = l.length - ds.length
  | [], l, _ => by simp [restL]
  | d :: ds, l, h => by
    rw [restL, restL_length ds]
    · rw [erase_length h.1]; simp; omega
    · rw [erase_length h.1]; exact h.2
theorem restL_free : ∀ (k : Nat) (ds : List Nat) (n : Nat), ds.length = k → fits n ds → restL (List.range n) ds = freeL (ofDig (List.range n) ds) n
  | 0, ds, n, hk, _ => by rw [List.length_eq_zero_iff.1 hk]; exact (freeL_nil n).symm
  | k + 1, ds, n, hk, hf => by
    rcases List.eq_nil_or_concat ds with rfl | ⟨es, e, rfl⟩
    · simp at hk
    · rw [List.concat_eq_append] at *
      have hel : es.length = k := by simpa using hk
      have hfe : fits n es := by have := fits_take _ n k hf; rwa [← hel, List.take_left] at this
      have ih := restL_free k es n hel hfe
      have hfl := fits_get _ _ k hf (by simp; omega)
      have he : (es ++ [e]).getD k 0 = e := by rw [← hel]; simp [List.getD]
      rw [he] at hfl
      have hlen := restL_length es (List.range n) (by rw [List.length_range]; exact hfe)
      rw [List.length_range, hel] at hlen
      rw [restL_snoc, ofDig_snoc, ih, freeL_erase]
      rw [← ih, hlen]
      exact hfl
theorem digN_get (n a i : Nat) (hi : i < n) : (digN n a).getD i 0 = a / facF (n - 1 - i) % (n - i) := by
  induction n generalizing i with
  | zero => omega
  | succ n ih =>
    rw [digN_succ]
    cases i with
    | zero => simp
    | succ i =>
      rw [List.getD_cons_succ, ih i (by omega), show n + 1 - 1 - (i + 1) = n - 1 - i by omega, show n + 1 - (i + 1) = n - i by omega]
theorem facF_succ (n : Nat) : facF (n + 1) = facF n * (n + 1) := rfl
/-- What is left of a number behind some places: divided by what one of the next place stands for, its place. -/
theorem digN_mod (n a i : Nat) (hi : i < n) : a % facF (n - i) / facF (n - 1 - i) = (digN n a).getD i 0 ∧ a % facF (n - i) % facF (n - 1 - i) = a % facF (n - 1 - i) := by
  have e : facF (n - i) = facF (n - 1 - i) * (n - i) := by
    have : n - i = (n - 1 - i) + 1 := by omega
    rw [this, facF_succ]
  rw [digN_get n a i hi, e]
  constructor
  · rw [Nat.mod_mul_right_div_self]
  · rw [Nat.mod_mul_right_mod]
end Go.Proofs.Ytoediaepoddonaa
