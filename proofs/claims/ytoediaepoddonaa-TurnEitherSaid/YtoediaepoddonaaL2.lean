/- Orders by a code are orders; the last shop by a step. The plain law: no program. No condition. -/
import Derived.Test.YtoediaepoddonaaT7
namespace Go.Proofs.Ytoediaepoddonaa
set_option linter.unusedSimpArgs false
set_option linter.unusedVariables false
theorem turned_perm {l : List Nat} {c : Nat} (hc : c < l.length) : (l.getD c 0 :: turned l c).Perm l := by
  have e : l = l.take c ++ l.getD c 0 :: l.drop (c + 1) := by
    rw [List.getD, List.getElem?_eq_getElem hc]
    simp
  have : (l.getD c 0 :: (l.drop (c + 1) ++ l.take c)).Perm (l.take c ++ l.getD c 0 :: l.drop (c + 1)) := by
    refine List.Perm.trans ?_ List.perm_middle.symm
    exact List.Perm.cons _ List.perm_append_comm
  unfold turned
  refine this.trans ?_
  rw [← e]
theorem ord_perm : ∀ (cs l : List Nat), fits l.length cs → (ordF l cs ++ aft l cs).Perm l
  | [], l, _ => by simp [ordF, aft]
  | c :: cs, l, h => by
    rw [ordF, aft, List.cons_append]
    refine List.Perm.trans (List.Perm.cons _ (ord_perm cs (turned l c) ?_)) (turned_perm h.1)
    rw [turned_length h.1]
    exact h.2
theorem round_perm (n : Nat) (s : Int) : (roundL n s).Perm (List.range n) := by
  have h := ord_perm (stepC n s) (List.range n) (by rw [List.length_range]; exact stepC_fits n s)
  have hl : (aft (List.range n) (stepC n s)).length = 0 := by
    rw [aft_length _ _ (by rw [List.length_range]; exact stepC_fits n s), List.length_range, stepC_length]; omega
  rw [List.length_eq_zero_iff.1 hl, List.append_nil] at h
  exact h
theorem zs_mem {l : List Nat} {x : Nat} : ((x : Int) ∈ zs l) ↔ x ∈ l := by
  simp only [zs, List.mem_map]
  constructor
  · rintro ⟨a, h1, h2⟩
    have : a = x := by omega
    exact this ▸ h1
  · exact fun h => ⟨x, h, rfl⟩
theorem isOrd_perm {l : List Nat} {n : Nat} (h : l.Perm (List.range n)) : isOrd (zs l) n := by
  have hl : l.length = n := by rw [h.length_eq, List.length_range]
  have hnd : l.Nodup := h.nodup_iff.2 List.nodup_range
  refine ⟨by rw [zs_length]; exact hl, fun i hi => ?_⟩
  have hi' : i < l.length := by omega
  have hmem : l.getD i 0 ∈ l := by rw [List.getD, List.getElem?_eq_getElem hi']; exact List.getElem_mem hi'
  have := List.mem_range.1 (h.mem_iff.1 hmem)
  rw [zs_get]
  refine ⟨by omega, by omega, ?_⟩
  rw [show (zs l).take i = zs (l.take i) by simp [zs, List.map_take], zs_mem]
  intro hm
  obtain ⟨j, hj, he⟩ := List.getElem_of_mem hm
  rw [List.length_take] at hj
  rw [List.getElem_take, List.getD, List.getElem?_eq_getElem hi'] at he
  have := (List.pairwise_iff_getElem.1 hnd) j i (by omega) hi' (by omega)
  exact this he
theorem turned_get {l : List Nat} {c q : Nat} (hc : c < l.length) (hq : q + 1 < l.length) : (turned l c).getD q 0 = l.getD ((c + 1 + q) % l.length) 0 := by
  simp only [turned, List.getD, List.getElem?_append, List.length_drop, List.getElem?_drop, List.getElem?_take]
  by_cases h : q < l.length - (c + 1)
  · rw [if_pos h, Nat.mod_eq_of_lt (by omega)]
  · rw [if_neg h, if_pos (by omega)]
    have : c + 1 + q = (q - (l.length - (c + 1))) + l.length := by omega
    rw [this, Nat.add_mod_right, Nat.mod_eq_of_lt (by omega)]
theorem stepC_succ (k : Nat) (s : Int) : stepC (k + 1) s = ((s - 1) % ((k + 1 : Nat) : Int)).toNat :: stepC k s := by
  unfold stepC
  rw [List.range_succ_eq_map, List.map_cons, List.map_map]
  congr 1
  apply List.map_congr_left
  intro i hi
  simp
theorem last_pos (s : Int) : ∀ (k : Nat) (l : List Nat), l.length = k + 1 → (ordF l (stepC (k + 1) s)).getD k 0 = l.getD (lastF s (k + 1)).toNat 0
  | 0, l, hl => by
    rw [stepC_succ]
    have h0 : lastF s 1 = 0 := by
      show (0 + s) % ((0 : Nat) + 1 : Int) = 0
      simp
    rw [h0]
    simp [ordF]
  | k + 1, l, hl => by
    rw [stepC_succ, ordF, List.getD_cons_succ]
    have hc0 := Int.emod_nonneg (s - 1) (show ((k + 1 + 1 : Nat) : Int) ≠ 0 by omega)
    have hc1 := Int.emod_lt_of_pos (s - 1) (show (0 : Int) < (k + 1 + 1 : Nat) by omega)
    have hc : ((s - 1) % ((k + 1 + 1 : Nat) : Int)).toNat < l.length := by omega
    rw [last_pos s k _ (by rw [turned_length hc]; omega)]
    have hr := lastF_range s (k + 1)
    have hr2 := hr.2 (by omega)
    rw [turned_get hc (by omega)]
    congr 1
    rw [hl]
    have e : lastF s (k + 1 + 1) = (lastF s (k + 1) + s) % ((k + 1 + 1 : Nat) : Int) := rfl
    rw [e]
    generalize lastF s (k + 1) = p at *
    have e2 : (p + s) % ((k + 1 + 1 : Nat) : Int) = ((s - 1) % ((k + 1 + 1 : Nat) : Int) + 1 + p) % ((k + 1 + 1 : Nat) : Int) := by
      rw [Int.add_assoc, Int.emod_add_emod]
      congr 1
      omega
    rw [e2]
    obtain ⟨c, hcc⟩ : ∃ c : Nat, (s - 1) % ((k + 1 + 1 : Nat) : Int) = c := ⟨((s - 1) % ((k + 1 + 1 : Nat) : Int)).toNat, by omega⟩
    obtain ⟨q, rfl⟩ : ∃ q : Nat, p = q := ⟨p.toNat, by omega⟩
    rw [hcc]
    have : ((c : Int) + 1 + (q : Int)) % ((k + 1 + 1 : Nat) : Int) = (((c + 1 + q) % (k + 1 + 1) : Nat) : Int) := by push_cast; rfl
    simp only [this, Int.toNat_natCast]
/-- The last shop of the order by a step. -/
theorem round_last (n : Nat) (s : Int) : (zs (roundL (n + 1) s)).getD n 0 = lastF s (n + 1) := by
  rw [zs_get, roundL, last_pos s n _ (by simp)]
  have hr := lastF_range s (n + 1)
  have hr2 := hr.2 (by omega)
  rw [List.getD, List.getElem?_range (by omega)]
  simp
  omega
/-- Where a number of an order is. -/
theorem idx_ord {xs : List Int} {n i : Nat} (ho : isOrd xs n) (hi : i < n) : idx (fun y => decide (xs.getD i 0 = y)) xs = i := by
  refine idx_some (by rw [ho.1]; exact hi) (fun j hj => ?_) (by simp)
  simp only [decide_eq_false_iff_not]
  intro h
  refine (ho.2 i hi).2.2 ?_
  rw [h]
  have hj' : j < xs.length := by rw [ho.1]; omega
  rw [List.getD, List.getElem?_eq_getElem hj']
  exact List.mem_take_iff_getElem.2 ⟨j, by omega, rfl⟩
theorem ord_has {l : List Nat} {n x : Nat} (h : l.Perm (List.range n)) (hx : x < n) : ∃ i, i < n ∧ (zs l).getD i 0 = x := by
  have : x ∈ l := h.mem_iff.2 (List.mem_range.2 hx)
  obtain ⟨i, hi, he⟩ := List.getElem_of_mem this
  have hl : l.length = n := by rw [h.length_eq, List.length_range]
  refine ⟨i, by omega, ?_⟩
  rw [zs_get, List.getD, List.getElem?_eq_getElem hi, he]
  rfl
end Go.Proofs.Ytoediaepoddonaa
