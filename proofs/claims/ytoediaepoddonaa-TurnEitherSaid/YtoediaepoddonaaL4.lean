/- Numbers of orders. The plain law: no program. No condition. -/
import Derived.Test.YtoediaepoddonaaL3
namespace Go.Proofs.Ytoediaepoddonaa
set_option linter.unusedSimpArgs false
set_option linter.unusedVariables false
def facF : Nat → Nat
  | 0 => 1
  | n + 1 => facF n * (n + 1)
theorem facF_pos : ∀ n, 0 < facF n
  | 0 => by decide
  | n + 1 => Nat.mul_pos (facF_pos n) (by omega)
/-- The places of the shops of an order in the list of those that are left, which loses them. -/
def digF : List Nat → List Nat → List Nat
  | _, [] => []
  | l, x :: xs => l.idxOf x :: digF (l.eraseIdx (l.idxOf x)) xs
/-- The order of such places. -/
def ofDig : List Nat → List Nat → List Nat
  | _, [] => []
  | l, d :: ds => l.getD d 0 :: ofDig (l.eraseIdx d) ds
/-- The number of such places, of so many shops that are left. -/
def numD : Nat → List Nat → Nat
  | _, [] => 0
  | k, d :: ds => d * facF (k - 1) + numD (k - 1) ds
theorem erase_perm {l : List Nat} {c : Nat} (hc : c < l.length) : (l.getD c 0 :: l.eraseIdx c).Perm l := by
  have e : l = l.take c ++ l.getD c 0 :: l.drop (c + 1) := by
    rw [List.getD, List.getElem?_eq_getElem hc]
    simp
  rw [List.eraseIdx_eq_take_drop_succ]
  refine List.Perm.trans List.perm_middle.symm ?_
  rw [← e]
theorem erase_length {l : List Nat} {c : Nat} (hc : c < l.length) : (l.eraseIdx c).length = l.length - 1 := List.length_eraseIdx_of_lt hc
theorem erase_nodup {l : List Nat} {c : Nat} (hc : c < l.length) (h : l.Nodup) : (l.eraseIdx c).Nodup ∧ l.getD c 0 ∉ l.eraseIdx c := by
  have := (erase_perm hc).nodup_iff.2 h
  rw [List.nodup_cons] at this
  exact ⟨this.2, this.1⟩
theorem dig_of : ∀ (ds l : List Nat), l.Nodup → fits l.length ds → digF l (ofDig l ds) = ds
  | [], l, _, _ => rfl
  | d :: ds, l, h, hf => by
    rw [ofDig, digF, idx_get hf.1 h, dig_of ds _ (erase_nodup hf.1 h).1]
    rw [erase_length hf.1]; exact hf.2
theorem begF_erase {l xs : List Nat} {x : Nat} (h : begF l (x :: xs)) : x ∈ l ∧ begF (l.eraseIdx (l.idxOf x)) xs := by
  obtain ⟨h1, h2⟩ := h
  rw [List.nodup_cons] at h1
  have hx := h2 x (by simp)
  refine ⟨hx, h1.2, fun y hy => ?_⟩
  have hc := List.idxOf_lt_length_of_mem hx
  have := (erase_perm hc).mem_iff.2 (h2 y (by simp [hy]))
  rw [get_idx hx, List.mem_cons] at this
  rcases this with rfl | h
  · exact absurd hy h1.1
  · exact h
theorem dig_fits : ∀ (xs l : List Nat), begF l xs → fits l.length (digF l xs)
  | [], l, _ => trivial
  | x :: xs, l, h => by
    obtain ⟨h1, h2⟩ := begF_erase h
    have := List.idxOf_lt_length_of_mem h1
    refine ⟨this, ?_⟩
    have h3 := dig_fits xs _ h2
    rw [erase_length this] at h3
    exact h3
theorem of_dig : ∀ (xs l : List Nat), begF l xs → ofDig l (digF l xs) = xs
  | [], l, _ => rfl
  | x :: xs, l, h => by
    obtain ⟨h1, h2⟩ := begF_erase h
    rw [digF, ofDig, get_idx h1, of_dig xs _ h2]
theorem digF_length : ∀ (xs l : List Nat), (digF l xs).length = xs.length
  | [], l => rfl
  | x :: xs, l => by simp [digF, digF_length xs]
theorem ofDig_length : ∀ (xs l : List Nat), (ofDig l xs).length = xs.length
  | [], l => rfl
  | x :: xs, l => by simp [ofDig, ofDig_length xs]
theorem ofDig_perm : ∀ (ds l : List Nat), fits l.length ds → ds.length = l.length → (ofDig l ds).Perm l
  | [], l, _, h => by rw [List.length_eq_zero_iff.1 h.symm]; exact List.Perm.refl _
  | d :: ds, l, hf, h => by
    rw [ofDig]
    refine List.Perm.trans (List.Perm.cons _ (ofDig_perm ds _ ?_ ?_)) (erase_perm hf.1)
    · rw [erase_length hf.1]; exact hf.2
    · rw [erase_length hf.1]; simp at h; omega
theorem numD_lt : ∀ (ds : List Nat) (k : Nat), fits k ds → numD k ds < facF k
  | [], k, _ => facF_pos k
  | d :: ds, 0, h => absurd h.1 (by omega)
  | d :: ds, k + 1, h => by
    have h1 := numD_lt ds k h.2
    have h2 := h.1
    show d * facF (k + 1 - 1) + numD (k + 1 - 1) ds < facF k * (k + 1)
    rw [Nat.add_sub_cancel]
    have : d * facF k ≤ k * facF k := Nat.mul_le_mul_right _ (by omega)
    have e : facF k * (k + 1) = k * facF k + facF k := by rw [Nat.mul_comm, Nat.add_mul, Nat.one_mul]
    omega
theorem numD_inj : ∀ (ds es : List Nat) (k : Nat), fits k ds → fits k es → ds.length = es.length → numD k ds = numD k es → ds = es
  | [], [], k, _, _, _, _ => rfl
  | d :: ds, e :: es, 0, h, _, _, _ => absurd h.1 (by omega)
  | d :: ds, e :: es, k + 1, h1, h2, hl, he => by
    have a1 := numD_lt ds k h1.2
    have a2 := numD_lt es k h2.2
    have he : d * facF k + numD k ds = e * facF k + numD k es := he
    have hde : d = e := by
      have := congrArg (· / facF k) he
      simpa [Nat.mul_comm _ (facF k), Nat.mul_add_div (facF_pos k), Nat.div_eq_of_lt a1, Nat.div_eq_of_lt a2] using this
    subst hde
    rw [numD_inj ds es k h1.2 h2.2 (by simpa using hl) (by omega)]
/-- The digits of a number, of the least place first: as Numbered has them. -/
def lowD : Nat → Nat → List Nat
  | 0, _ => []
  | n + 1, a => lowD n a ++ [a / facF n % (n + 1)]
/-- .. the first place first. -/
def digN (n a : Nat) : List Nat := (lowD n a).reverse
theorem lowD_length : ∀ n a, (lowD n a).length = n
  | 0, a => rfl
  | n + 1, a => by simp [lowD, lowD_length n]
theorem digN_length (n a : Nat) : (digN n a).length = n := by simp [digN, lowD_length]
theorem digN_succ (n a : Nat) : digN (n + 1) a = (a / facF n % (n + 1)) :: digN n a := by simp [digN, lowD]
theorem digN_fits : ∀ n a, fits n (digN n a)
  | 0, a => trivial
  | n + 1, a => by rw [digN_succ]; exact ⟨Nat.mod_lt _ (by omega), digN_fits n a⟩
theorem numD_digN : ∀ n a, numD n (digN n a) = a % facF n
  | 0, a => by show 0 = a % 1; omega
  | n + 1, a => by
    rw [digN_succ]
    show (a / facF n % (n + 1)) * facF n + numD n (digN n a) = a % (facF n * (n + 1))
    rw [numD_digN n a, Nat.mod_mul, Nat.mul_comm]
    omega
/-- The order with a number, and the number of an order. -/
def ordN (n a : Nat) : List Nat := ofDig (List.range n) (digN n a)
def numN (n : Nat) (xs : List Nat) : Nat := numD n (digF (List.range n) xs)
theorem ordN_perm (n a : Nat) : (ordN n a).Perm (List.range n) := ofDig_perm _ _ (by rw [List.length_range]; exact digN_fits n a) (by rw [digN_length, List.length_range])
theorem ordN_length (n a : Nat) : (ordN n a).length = n := by rw [ordN, ofDig_length, digN_length]
theorem numN_ordN (n a : Nat) (ha : a < facF n) : numN n (ordN n a) = a := by
  rw [numN, ordN, dig_of _ _ List.nodup_range (by rw [List.length_range]; exact digN_fits n a), numD_digN, Nat.mod_eq_of_lt ha]
theorem ordN_numN (n : Nat) (xs : List Nat) (h : xs.Perm (List.range n)) : ordN n (numN n xs) = xs ∧ numN n xs < facF n := by
  have hb := begF_perm h List.nodup_range
  have hf := dig_fits xs _ hb
  rw [List.length_range] at hf
  have hl : (digF (List.range n) xs).length = n := by rw [digF_length, h.length_eq, List.length_range]
  have hlt := numD_lt _ _ hf
  refine ⟨?_, hlt⟩
  have : digN n (numN n xs) = digF (List.range n) xs := by
    refine numD_inj _ _ n (digN_fits _ _) hf (by rw [digN_length, hl]) ?_
    rw [numD_digN]
    exact Nat.mod_eq_of_lt hlt
  rw [ordN, this, of_dig _ _ hb]
end Go.Proofs.Ytoediaepoddonaa
