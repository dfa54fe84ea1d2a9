/- The round of shops that are left, as lists. No condition. -/
import Derived.Test.YtoediaepoddonaaTab
namespace Go.Proofs.Ytoediaepoddonaa
set_option linter.unusedSimpArgs false
set_option linter.unusedVariables false
/-- The shops from one on, round. -/
def rot (n a : Nat) : List Nat := (List.range n).map fun i => (a + i) % n
/-- Those of them that are left. -/
def leftL (n : Nat) (gone : List Int) (a : Nat) : List Nat := (rot n a).filter fun k => gone.getD k 0 == 0
/-- A round behind one of its shops, without it. -/
def turned (l : List Nat) (m : Nat) : List Nat := l.drop (m + 1) ++ l.take m
theorem rot_length (n a : Nat) : (rot n a).length = n := by simp [rot]
theorem rot_get {n a i : Nat} (hi : i < (rot n a).length) : (rot n a)[i] = (a + i) % n := by simp [rot]
theorem filter_at {α : Type} (p : α → Bool) : ∀ (l : List α) (m : Nat), m < (l.filter p).length → ∃ (j : Nat) (x : α), l[j]? = some x ∧ p x = true ∧ (l.filter p)[m]? = some x ∧ (l.take j).filter p = (l.filter p).take m ∧ (l.drop (j + 1)).filter p = (l.filter p).drop (m + 1)
  | [], m, h => by simp at h
  | y :: l, m, h => by
    by_cases hy : p y = true
    · rw [List.filter_cons_of_pos hy] at h ⊢
      cases m with
      | zero => exact ⟨0, y, rfl, hy, rfl, by simp, by simp⟩
      | succ m =>
        obtain ⟨j, x, h1, h2, h3, h4, h5⟩ := filter_at p l m (by simpa using h)
        exact ⟨j + 1, x, by simpa using h1, h2, by simpa using h3, by simp [List.filter_cons_of_pos hy, h4], by simpa using h5⟩
    · rw [List.filter_cons_of_neg hy] at h ⊢
      obtain ⟨j, x, h1, h2, h3, h4, h5⟩ := filter_at p l m h
      exact ⟨j + 1, x, by simpa using h1, h2, h3, by simp [List.filter_cons_of_neg hy, h4], by simpa using h5⟩
theorem rot_next {n a j : Nat} (hj : j < n) : rot n (((a + j) % n + 1) % n) = (rot n a).drop (j + 1) ++ (rot n a).take (j + 1) := by
  apply List.ext_getElem
  · simp [rot_length]; omega
  · intro i h1 h2
    rw [rot_length] at h1
    rw [rot_get, List.getElem_append]
    have hl : ((rot n a).drop (j + 1)).length = n - (j + 1) := by simp [rot_length]
    split
    · rw [List.getElem_drop, rot_get]
      rw [Nat.mod_add_mod, Nat.add_assoc, Nat.mod_add_mod]
      congr 1
      omega
    · rename_i hlt
      rw [hl] at hlt
      rw [List.getElem_take, rot_get]
      rw [Nat.mod_add_mod, Nat.add_assoc, Nat.mod_add_mod]
      rw [hl, show a + j + (1 + i) = a + (i - (n - (j + 1))) + n by omega, Nat.add_mod_right]
theorem rot_inj {n a i j : Nat} (hi : i < n) (hj : j < n) (h : (a + i) % n = (a + j) % n) : i = j := by
  have h1 := Nat.div_add_mod (a + i) n
  have h2 := Nat.div_add_mod (a + j) n
  rw [h] at h1
  have h3 : n * ((a + i) / n) + (a + j) = n * ((a + j) / n) + (a + i) := by omega
  rcases Nat.lt_trichotomy ((a + i) / n) ((a + j) / n) with h4 | h4 | h4
  · have := Nat.mul_le_mul_left n h4
    rw [Nat.mul_succ] at this
    omega
  · rw [h4] at h3; omega
  · have := Nat.mul_le_mul_left n h4
    rw [Nat.mul_succ] at this
    omega
theorem rot_mem {n a k : Nat} (h : k ∈ rot n a) : k < n := by
  simp only [rot, List.mem_map, List.mem_range] at h
  obtain ⟨i, hi, rfl⟩ := h
  exact Nat.mod_lt _ (by omega)
theorem rot_nodup (n a : Nat) : (rot n a).Nodup := by
  unfold List.Nodup
  rw [List.pairwise_iff_getElem]
  intro i j hi hj hij h
  rw [rot_get, rot_get] at h
  rw [rot_length] at hi hj
  have := rot_inj hi hj h
  omega
/-- Passing over so many: who leaves, and who is left then. -/
theorem left_pass {n a m : Nat} {gone : List Int} (hg : n ≤ gone.length) (hm : m < (leftL n gone a).length) :
    leftL n (gone.set ((leftL n gone a).getD m 0) 1) (((leftL n gone a).getD m 0 + 1) % n) = turned (leftL n gone a) m := by
  obtain ⟨j, x, h1, h2, h3, h4, h5⟩ := filter_at (fun k => gone.getD k 0 == 0) (rot n a) m hm
  have hj : j < n := by
    have := (List.getElem?_eq_some_iff.1 h1).1
    rwa [rot_length] at this
  have hx : (leftL n gone a).getD m 0 = x := by
    show ((leftL n gone a)[m]?).getD 0 = x
    unfold leftL
    rw [h3]
    rfl
  have hxe : x = (a + j) % n := by
    obtain ⟨_, h⟩ := List.getElem?_eq_some_iff.1 h1
    rw [← h, rot_get]
  rw [hx]
  have hxn : x < n := by rw [hxe]; exact Nat.mod_lt _ (by omega)
  have e1 : ∀ k, ((gone.set x 1).getD k 0 == 0) = (gone.getD k 0 == 0 && !(k == x)) := by
    intro k
    simp only [List.getD, List.getElem?_set]
    by_cases hk : x = k
    · subst hk
      simp [show x < gone.length by omega]
    · have : (k == x) = false := by simpa using fun h : k = x => hk h.symm
      simp [hk, this]
  have e2 : ∀ l : List Nat, x ∉ l → l.filter (fun k => (gone.set x 1).getD k 0 == 0) = l.filter (fun k => gone.getD k 0 == 0) := by
    intro l hl
    apply List.filter_congr
    intro k hk
    rw [e1]
    have : (k == x) = false := by simpa using fun h : k = x => hl (h ▸ hk)
    simp [this]
  have hr : leftL n (gone.set x 1) ((x + 1) % n) = ((rot n a).drop (j + 1)).filter (fun k => (gone.set x 1).getD k 0 == 0) ++ ((rot n a).take (j + 1)).filter (fun k => (gone.set x 1).getD k 0 == 0) := by
    unfold leftL
    rw [hxe, rot_next hj, List.filter_append]
  rw [hr]
  have hnd := rot_nodup n a
  have hsplit : rot n a = (rot n a).take j ++ x :: (rot n a).drop (j + 1) := by
    obtain ⟨hlt, h⟩ := List.getElem?_eq_some_iff.1 h1
    rw [← h, ← List.drop_eq_getElem_cons, List.take_append_drop]
  have ht : (rot n a).take (j + 1) = (rot n a).take j ++ [x] := by
    rw [List.take_add_one, h1]; rfl
  rw [hsplit] at hnd
  rw [List.nodup_append] at hnd
  obtain ⟨_, n2, n3⟩ := hnd
  rw [List.nodup_cons] at n2
  have hnt : x ∉ (rot n a).take j := fun hh => n3 x hh x (by simp) rfl
  rw [ht, List.filter_append, e2 _ n2.1, e2 _ hnt, h4, h5]
  have : [x].filter (fun k => (gone.set x 1).getD k 0 == 0) = [] := by
    rw [List.filter_cons_of_neg, List.filter_nil]
    rw [e1]
    simp
  rw [this, List.append_nil]
  rfl
/-- The shops that leave by a code, and who is left behind it. -/
def ordF : List Nat → List Nat → List Nat
  | _, [] => []
  | l, c :: cs => l.getD c 0 :: ordF (turned l c) cs
def aft : List Nat → List Nat → List Nat
  | l, [] => l
  | l, c :: cs => aft (turned l c) cs
/-- A code of a round: each number less than how many are left. -/
def fits : Nat → List Nat → Prop
  | _, [] => True
  | k, c :: cs => c < k ∧ fits (k - 1) cs
theorem turned_length {l : List Nat} {m : Nat} (h : m < l.length) : (turned l m).length = l.length - 1 := by simp [turned]; omega
theorem ordF_snoc : ∀ (cs : List Nat) (l : List Nat) (c : Nat), ordF l (cs ++ [c]) = ordF l cs ++ [(aft l cs).getD c 0]
  | [], l, c => rfl
  | d :: cs, l, c => by simp [ordF, aft, ordF_snoc cs]
theorem aft_snoc : ∀ (cs : List Nat) (l : List Nat) (c : Nat), aft l (cs ++ [c]) = turned (aft l cs) c
  | [], l, c => rfl
  | d :: cs, l, c => by simp [aft, aft_snoc cs]
theorem ordF_length : ∀ (cs : List Nat) (l : List Nat), (ordF l cs).length = cs.length
  | [], l => rfl
  | d :: cs, l => by simp [ordF, ordF_length cs]
theorem aft_length : ∀ (cs : List Nat) (l : List Nat), fits l.length cs → (aft l cs).length = l.length - cs.length
  | [], l, _ => by simp [aft]
  | d :: cs, l, h => by
    rw [aft, aft_length cs]
    · rw [turned_length h.1]; simp; omega
    · rw [turned_length h.1]; exact h.2
theorem fits_take : ∀ (cs : List Nat) (k i : Nat), fits k cs → fits k (cs.take i)
  | [], k, i, h => by simp [fits]
  | c :: cs, k, 0, h => trivial
  | c :: cs, k, i + 1, h => ⟨h.1, fits_take cs _ i h.2⟩
theorem fits_get : ∀ (cs : List Nat) (k i : Nat), fits k cs → i < cs.length → cs.getD i 0 < k - i
  | [], k, i, h, hi => by simp at hi
  | c :: cs, k, 0, h, hi => h.1
  | c :: cs, k, i + 1, h, hi => by
    have := fits_get cs _ i h.2 (by simpa using hi)
    simp only [List.getD_cons_succ]
    omega
theorem fits_of : ∀ (cs : List Nat) (k : Nat), (∀ i, i < cs.length → cs.getD i 0 < k - i) → fits k cs
  | [], k, _ => trivial
  | c :: cs, k, h => ⟨by have := h 0 (by simp); simpa using this, fits_of cs _ fun i hi => by have := h (i + 1) (by simpa using hi); simp only [List.getD_cons_succ] at this; omega⟩
theorem leftL_zero (n : Nat) (hn : n ≤ 12) : leftL n (List.replicate 12 0) 0 = List.range n := by
  have : ∀ n < 13, leftL n (List.replicate 12 0) 0 = List.range n := by decide +kernel
  exact this n (by omega)
/-- The code by a step, and the order by it. -/
def stepC (n : Nat) (s : Int) : List Nat := (List.range n).map fun i => ((s - 1) % ((n - i : Nat) : Int)).toNat
def roundL (n : Nat) (s : Int) : List Nat := ordF (List.range n) (stepC n s)
theorem stepC_length (n : Nat) (s : Int) : (stepC n s).length = n := by simp [stepC]
theorem stepC_get {n i : Nat} {s : Int} (hi : i < n) : (stepC n s).getD i 0 = ((s - 1) % ((n - i : Nat) : Int)).toNat := by
  simp [stepC, List.getD, List.getElem?_map, List.getElem?_range hi]
theorem stepC_fits (n : Nat) (s : Int) : fits n (stepC n s) := by
  refine fits_of _ _ fun i hi => ?_
  rw [stepC_length] at hi
  rw [stepC_get hi]
  have := Int.emod_lt_of_pos (s - 1) (show (0 : Int) < (n - i : Nat) by omega)
  omega
theorem roundL_length (n : Nat) (s : Int) : (roundL n s).length = n := by rw [roundL, ordF_length, stepC_length]
def zs (l : List Nat) : List Int := l.map fun (x : Nat) => (x : Int)
theorem zs_length (l : List Nat) : (zs l).length = l.length := by simp [zs]
theorem zs_get (l : List Nat) (i : Nat) : (zs l).getD i 0 = ((l.getD i 0 : Nat) : Int) := by
  simp only [zs, List.getD, List.getElem?_map]
  cases l[i]? <;> rfl
theorem zs_append (l m : List Nat) : zs (l ++ m) = zs l ++ zs m := by simp [zs]
end Go.Proofs.Ytoediaepoddonaa
