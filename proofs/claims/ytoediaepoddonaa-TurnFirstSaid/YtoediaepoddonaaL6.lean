/- Numbers of orders: the places as counts. The plain law: no program. No condition. -/
import Derived.Test.YtoediaepoddonaaL5
namespace Go.Proofs.Ytoediaepoddonaa
set_option linter.unusedSimpArgs false
set_option linter.unusedVariables false
theorem digF_snoc : ∀ (xs l : List Nat) (x : Nat), digF l (xs ++ [x]) = digF l xs ++ [(restL l (digF l xs)).idxOf x]
  | [], l, x => rfl
  | y :: xs, l, x => by simp [digF, restL, digF_snoc xs]
theorem rest_mem : ∀ (ys l : List Nat) (x : Nat), begF l (ys ++ [x]) → x ∈ restL l (digF l ys)
  | [], l, x, h => h.2 x (by simp)
  | y :: ys, l, x, h => by
    obtain ⟨h1, h2⟩ := begF_erase (xs := ys ++ [x]) h
    exact rest_mem ys _ x h2
theorem digF_take : ∀ (xs l : List Nat) (k : Nat), digF l (xs.take k) = (digF l xs).take k
  | [], l, k => by simp [digF]
  | x :: xs, l, 0 => by simp [digF]
  | x :: xs, l, k + 1 => by simp [digF, digF_take xs]
theorem idx_idxOf {L : List Nat} {x : Nat} (h : x ∈ L) : idx (fun y => decide ((x : Int) = y)) (zs L) = (L.idxOf x : Nat) := by
  have hi := List.idxOf_lt_length_of_mem h
  refine idx_some (by rw [zs_length]; exact hi) (fun j hj => ?_) ?_
  · rw [zs_get]
    simp only [decide_eq_false_iff_not]
    intro he
    have he : L.getD j 0 = x := by omega
    have hjl : j < L.length := by omega
    have h2 : ∀ (l : List Nat) (j : Nat), j < l.idxOf x → l.getD j 0 ≠ x := by
      intro l
      induction l with
      | nil => intro j hj; simp at hj
      | cons y l ih =>
        intro j hj
        rw [List.idxOf_cons] at hj
        by_cases hy : (y == x) = true
        · simp [hy] at hj
        · simp only [hy] at hj
          cases j with
          | zero => simpa using hy
          | succ j =>
            rw [List.getD_cons_succ]
            exact ih j (by simpa using hj)
    exact h2 L j hj he
  · rw [zs_get, get_idx h]; simp
theorem freeL_lt (out : List Nat) {x n : Nat} (h : x ≤ n) : (freeL out n).filter (fun k => decide (k < x)) = freeL out x := by
  unfold freeL
  rw [List.filter_filter]
  have : List.range n = List.range x ++ (List.range n).drop x := by
    conv => lhs; rw [← List.take_append_drop x (List.range n)]
    rw [List.take_range, show min x n = x by omega]
  rw [this, List.filter_append]
  have h1 : (List.range x).filter (fun k => decide (k < x) && decide (k ∉ out)) = (List.range x).filter fun k => decide (k ∉ out) := by
    apply List.filter_congr
    intro k hk
    simp [List.mem_range.1 hk]
  have h2 : ((List.range n).drop x).filter (fun k => decide (k < x) && decide (k ∉ out)) = [] := by
    rw [List.filter_eq_nil_iff]
    intro k hk
    obtain ⟨j, hj, rfl⟩ := List.getElem_of_mem hk
    simp
    omega
  rw [h1, h2, List.append_nil]
/-- The place of a shop among those that are left: how many behind it have lesser numbers. -/
theorem dig_count {n i : Nat} {xs : List Nat} (hp : xs.Perm (List.range n)) (hi : i < xs.length) :
    (digF (List.range n) xs).getD i 0 = ((xs.drop (i + 1)).filter fun k => decide (k < xs.getD i 0)).length := by
  have hb := begF_perm hp List.nodup_range
  have hf := dig_fits xs _ hb
  rw [List.length_range] at hf
  have hnd : xs.Nodup := hb.1
  obtain ⟨x, hx⟩ : ∃ x, x = xs.getD i 0 := ⟨_, rfl⟩
  have htk : xs.take (i + 1) = xs.take i ++ [x] := by
    rw [hx, List.take_add_one, List.getElem?_eq_getElem hi, List.getD, List.getElem?_eq_getElem hi]; rfl
  have hbt := begF_take hb (i + 1)
  rw [htk] at hbt
  have hm := rest_mem _ _ _ hbt
  have e1 : (digF (List.range n) xs).getD i 0 = (restL (List.range n) (digF (List.range n) (xs.take i))).idxOf x := by
    have h1 : digF (List.range n) (xs.take (i + 1)) = (digF (List.range n) xs).take (i + 1) := digF_take _ _ _
    rw [htk, digF_snoc, digF_take] at h1
    have h2 := congrArg (fun l => l.getD i 0) h1
    have hl : ((digF (List.range n) xs).take i).length = i := by rw [List.length_take, digF_length]; omega
    simp only [List.getD] at h2
    rw [List.getElem?_append_right (by omega), hl, Nat.sub_self, List.getElem?_take_of_lt (by omega)] at h2
    rw [List.getD, ← h2, digF_take]
    rfl
  have hfree : restL (List.range n) (digF (List.range n) (xs.take i)) = freeL (xs.take i) n := by
    have h3 := restL_free _ (digF (List.range n) (xs.take i)) n rfl (by rw [digF_take]; exact fits_take _ _ _ hf)
    rw [h3, of_dig _ _ (begF_take hb i)]
  have hxn : x < n := by
    have : x ∈ xs := by rw [hx, List.getD, List.getElem?_eq_getElem hi]; exact List.getElem_mem hi
    exact List.mem_range.1 (hp.mem_iff.1 this)
  have hxo : x ∉ xs.take i := by
    have := hbt.1
    rw [List.nodup_append] at this
    exact fun h => this.2.2 x h x (by simp) rfl
  have e2 : (freeL (xs.take i) n).idxOf x = (freeL (xs.take i) x).length := by
    obtain ⟨a1, a2⟩ := freeL_at hxn hxo
    have := idx_get a1 (freeL_nodup (xs.take i) n)
    rw [a2] at this
    exact this
  have e3 : (freeL (xs.take i) n).Perm (xs.drop i) := by
    unfold freeL
    refine (List.Perm.filter _ hp.symm).trans ?_
    have key : ∀ A B : List Nat, (A ++ B).Nodup → (A ++ B).filter (fun k => decide (k ∉ A)) = B := by
      intro A B hn
      rw [List.nodup_append] at hn
      rw [List.filter_append]
      have h1 : A.filter (fun k => decide (k ∉ A)) = [] := by
        rw [List.filter_eq_nil_iff]
        intro k hk
        simpa using hk
      have h2 : B.filter (fun k => decide (k ∉ A)) = B := by
        rw [List.filter_eq_self]
        intro k hk
        have : k ∉ A := fun h => hn.2.2 k h k hk rfl
        simpa using this
      rw [h1, h2, List.nil_append]
    have h5 := key (xs.take i) (xs.drop i) (by rw [List.take_append_drop]; exact hnd)
    rw [List.take_append_drop] at h5
    rw [h5]
  rw [e1, hfree, e2, ← freeL_lt (xs.take i) (Nat.le_of_lt hxn), (List.Perm.filter (fun k => decide (k < x)) e3).length_eq]
  have hd : xs.drop i = x :: xs.drop (i + 1) := by rw [List.drop_eq_getElem_cons hi, hx, List.getD, List.getElem?_eq_getElem hi]; rfl
  rw [hd, List.filter_cons_of_neg (by simp), hx]
theorem numD_drop {n i : Nat} {ds : List Nat} (hi : i < ds.length) : numD (n - i) (ds.drop i) = ds.getD i 0 * facF (n - i - 1) + numD (n - (i + 1)) (ds.drop (i + 1)) := by
  rw [List.drop_eq_getElem_cons hi, List.getD, List.getElem?_eq_getElem hi]
  show ds[i] * facF (n - i - 1) + numD (n - i - 1) (ds.drop (i + 1)) = _
  rw [show n - (i + 1) = n - i - 1 by omega]
  rfl
end Go.Proofs.Ytoediaepoddonaa
