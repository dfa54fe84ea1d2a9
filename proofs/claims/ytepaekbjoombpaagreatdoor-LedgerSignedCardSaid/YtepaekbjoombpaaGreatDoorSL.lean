/- The plain law: a changed sign of a line is found. -/
import Derived.Test.YtepaekbjoombpaaGreatDoorS2
namespace Go.Proofs.YtepaekbjoombpaaGreatDoor
open Go Go.Proofs Go.Eng
set_option maxRecDepth 100000
set_option linter.unusedSimpArgs false
set_option linter.unusedVariables false
def sumL (l : List UInt8) : Nat → Nat
  | 0 => 0
  | n + 1 => sumL l n + (n + 1) * dv (l.getD n 0)
/-- A line with its sign, as bytes. -/
structure Ln (l : List UInt8) (n : Nat) : Prop where
  len : l.length = n + 2
  pos : 1 ≤ n ∧ n ≤ 12
  tx : ∀ i, i < n → txt (l.getD i 0) = true
  bl : l.getD n 0 = 32
  sg : (l.getD (n + 1) 0).toNat = 97 + sumL l n % 13
theorem getD_set {l : List UInt8} {p i : Nat} {c : UInt8} (hp : p < l.length) : (l.set p c).getD i 0 = if i = p then c else l.getD i 0 := by
  rw [List.getD_eq_getElem?_getD, List.getElem?_set, List.getD_eq_getElem?_getD]
  by_cases h : p = i
  · subst h; simp [hp]
  · have h2 : ¬ i = p := fun e => h e.symm
    simp [h, h2]
theorem sum_out {l : List UInt8} {p : Nat} {c : UInt8} (hp : p < l.length) : ∀ n, n ≤ p → sumL (l.set p c) n = sumL l n
  | 0, _ => rfl
  | n + 1, h => by rw [sumL, sumL, sum_out hp n (by omega), getD_set hp, if_neg (by omega)]
theorem sum_in {l : List UInt8} {p : Nat} {c : UInt8} (hp : p < l.length) : ∀ n, p < n → sumL (l.set p c) n + (p + 1) * dv (l.getD p 0) = sumL l n + (p + 1) * dv c
  | 0, h => absurd h (Nat.not_lt_zero _)
  | n + 1, h => by
    by_cases hn : p = n
    · subst hn
      rw [sumL, sumL, sum_out hp p (Nat.le_refl _), getD_set hp, if_pos rfl]
      omega
    · have := sum_in (c := c) hp n (by omega)
      rw [sumL, sumL, getD_set hp, if_neg (by omega)]
      omega
theorem mul13 : ∀ k : Fin 13, ∀ a b : Fin 11, 1 ≤ k.1 → (k.1 * a.1) % 13 = (k.1 * b.1) % 13 → a = b := by decide
theorem mul_ne {k a b : Nat} (hk : 1 ≤ k ∧ k ≤ 12) (ha : a ≤ 10) (hb : b ≤ 10) (h : (k * a) % 13 = (k * b) % 13) : a = b := by
  have := mul13 ⟨k, by omega⟩ ⟨a, by omega⟩ ⟨b, by omega⟩ hk.1 h
  exact congrArg Fin.val this
theorem txt_dv {a : UInt8} (h : txt a = true) : dv a ≤ 10 ∧ ((a = 32 ∧ dv a = 10) ∨ (a.toNat = dv a + 48 ∧ dv a ≤ 9)) := by
  by_cases h1 : a = 32
  · subst h1; exact ⟨by decide, .inl ⟨rfl, rfl⟩⟩
  · have h2 : 48 ≤ a.toNat ∧ a.toNat ≤ 57 := by simpa [txt, h1] using h
    rw [dv, if_neg h1]
    exact ⟨by omega, .inr (by omega)⟩
theorem dv_inj {a b : UInt8} (ha : txt a = true) (hb : txt b = true) (h : dv a = dv b) : a = b := by
  obtain ⟨_, ha | ha⟩ := txt_dv ha <;> obtain ⟨_, hb | hb⟩ := txt_dv hb
  · rw [ha.1, hb.1]
  · omega
  · omega
  · exact UInt8.toNat_inj.1 (by omega)
theorem sg_not_txt {b : UInt8} {k : Nat} (h : b.toNat = 97 + k) : ¬ txt b = true := by
  intro hh
  rcases (txt_dv hh).2 with ⟨h1, _⟩ | h1
  · subst h1; simp at h; omega
  · omega
/-- One sign is another one. -/
theorem chg_law {l : List UInt8} {n p : Nat} {c : UInt8} (H : Ln l n) (hp : p < n + 2) (hc : c ≠ l.getD p 0) : ¬ Ln (l.set p c) n := by
  intro K
  have hpl : p < l.length := by rw [H.len]; exact hp
  have k4 := K.sg
  have k3 := K.bl
  rw [getD_set hpl] at k4 k3
  by_cases h1 : p < n
  · have k2 := K.tx p h1
    rw [getD_set hpl, if_pos rfl] at k2
    rw [if_neg (by omega), H.sg] at k4
    have hs := sum_in (c := c) hpl n h1
    have h2 := H.tx p h1
    have := H.pos
    refine hc (dv_inj k2 h2 (mul_ne (k := p + 1) (by omega) (txt_dv k2).1 (txt_dv h2).1 ?_))
    generalize (p + 1) * dv c = x at hs ⊢
    generalize (p + 1) * dv (l.getD p 0) = y at hs ⊢
    omega
  · by_cases h2 : p = n
    · subst h2
      rw [if_pos rfl] at k3
      exact hc (k3.trans H.bl.symm)
    · obtain rfl : p = n + 1 := by omega
      rw [if_pos rfl, sum_out hpl n (by omega), ← H.sg] at k4
      exact hc (UInt8.toNat_inj.1 k4)
/-- Two signs change places. -/
theorem swap_law {l : List UInt8} {n p q : Nat} (H : Ln l n) (hpq : p < q) (hq : q < n + 2) (hne : l.getD p 0 ≠ l.getD q 0) : ¬ Ln ((l.set p (l.getD q 0)).set q (l.getD p 0)) n := by
  intro K
  have hpl : p < l.length := by rw [H.len]; omega
  have hql : q < (l.set p (l.getD q 0)).length := by rw [List.length_set, H.len]; exact hq
  have k4 := K.sg
  have k3 := K.bl
  have k2 := K.tx
  rw [getD_set hql, getD_set hpl] at k4 k3
  by_cases h1 : q < n
  · rw [if_neg (by omega), if_neg (by omega), H.sg] at k4
    have s1 := sum_in (c := l.getD p 0) hql n h1
    have s2 := sum_in (c := l.getD q 0) hpl n (by omega)
    rw [getD_set hpl, if_neg (by omega)] at s1
    have t1 := H.tx p (by omega)
    have t2 := H.tx q h1
    have := H.pos
    obtain ⟨k, rfl⟩ : ∃ k, q = p + k := ⟨q - p, by omega⟩
    refine hne (dv_inj t1 t2 (mul_ne (k := k) (by omega) (txt_dv t1).1 (txt_dv t2).1 ?_))
    have e1 : (p + k + 1) * dv (l.getD (p + k) 0) = (p + 1) * dv (l.getD (p + k) 0) + k * dv (l.getD (p + k) 0) := by rw [← Nat.add_mul]; congr 1; omega
    have e2 : (p + k + 1) * dv (l.getD p 0) = (p + 1) * dv (l.getD p 0) + k * dv (l.getD p 0) := by rw [← Nat.add_mul]; congr 1; omega
    rw [e1, e2] at s1
    generalize k * dv (l.getD (p + k) 0) = x at s1 s2 ⊢
    generalize k * dv (l.getD p 0) = y at s1 s2 ⊢
    generalize (p + 1) * dv (l.getD (p + k) 0) = z at s1 s2 ⊢
    generalize (p + 1) * dv (l.getD p 0) = w at s1 s2 ⊢
    omega
  · by_cases h2 : q = n
    · subst h2
      rw [if_pos rfl] at k3
      exact hne (k3.trans H.bl.symm)
    · obtain rfl : q = n + 1 := by omega
      by_cases h3 : p < n
      · have := k2 p h3
        rw [getD_set hql, if_neg (by omega), getD_set hpl, if_pos rfl] at this
        exact sg_not_txt H.sg this
      · obtain rfl : p = n := by omega
        rw [if_neg (by omega), if_pos rfl] at k3
        have := H.sg
        rw [k3] at this
        simp at this
        omega
/-! strings and their bytes -/
def bl (s : ByteArray) : List UInt8 := s.data.toList
theorem bl_length (s : ByteArray) : (bl s).length = s.size := Array.length_toList
theorem bl_getD (s : ByteArray) (i : Nat) : s.data.getD i 0 = (bl s).getD i 0 := by
  rw [bl, Array.getD_eq_getD_getElem?, List.getD_eq_getElem?_getD, Array.getElem?_toList]
theorem bl_append (s t : ByteArray) : bl (s ++ t) = bl s ++ bl t := by simp [bl]
theorem bl_extract (s : ByteArray) (i j : Nat) : bl (s.extract i j) = ((bl s).take j).drop i := by simp [bl, ByteArray.data_extract, Array.toList_extract, List.extract_eq_take_drop, List.drop_take]
theorem bl_inj {s t : ByteArray} (h : bl s = bl t) : s = t := ByteArray.ext (Array.toList_inj.1 h)
theorem sumTo_bl (s : ByteArray) : ∀ n, sumTo s n = sumL (bl s) n
  | 0 => rfl
  | n + 1 => by rw [sumTo, sumL, sumTo_bl s n, bl_getD]
theorem sumL_take (l : List UInt8) (m : Nat) : ∀ n, n ≤ m → sumL (l.take m) n = sumL l n
  | 0, _ => rfl
  | n + 1, h => by
    rw [sumL, sumL, sumL_take l m n (by omega)]
    congr 3
    rw [List.getD_eq_getElem?_getD, List.getD_eq_getElem?_getD, List.getElem?_take, if_pos (by omega)]
/-- A line that is right, as bytes. -/
theorem lineE_iff (s : ByteArray) : lineE s = 0 ↔ ∃ n, Ln (bl s) n := by
  have hx : ∀ n, s.size = n + 2 → bl (s.extract 0 n) = (bl s).take n := fun n _ => by rw [bl_extract, List.drop_zero]
  constructor
  · intro h
    unfold lineE at h
    split at h
    · omega
    split at h
    · rename_i h14 hok
      split at h
      · rename_i he
        obtain ⟨h3, ht, hb, h97, h109⟩ := (lineOK_iff s).1 hok
        obtain ⟨n, hn⟩ : ∃ n, s.size = n + 2 := ⟨s.size - 2, by omega⟩
        have e2 : s.size - 2 = n := by omega
        have e1 : s.size - 1 = n + 1 := by omega
        rw [e2] at ht hb he
        rw [e1] at h97 h109 he
        obtain ⟨hsz, htx⟩ := (text_iff _).1 ht
        have hsx : (s.extract 0 n).size = n := by rw [ex_size _ _ _ (by omega) (by omega)]; omega
        rw [hsx] at htx
        refine ⟨n, by rw [bl_length]; exact hn, by omega, fun i hi => ?_, ?_, ?_⟩
        · have := htx i hi
          rw [bl_getD, hx n hn, List.getD_eq_getElem?_getD, List.getElem?_take, if_pos hi] at this
          rw [List.getD_eq_getElem?_getD]; exact this
        · rw [at_, bl_getD] at hb
          exact UInt8.toNat_inj.1 (by simpa using hb)
        · have h5 := congrArg bl he
          rw [bl_extract, hn] at h5
          have h6 : ((bl s).getD (n + 1) 0) = UInt8.ofNat (97 + sumTo (s.extract 0 n) (s.extract 0 n).size % 13) := by
            have h7 := congrArg (fun l => l.getD 0 (0 : UInt8)) h5
            simp only [List.getD_eq_getElem?_getD, List.getElem?_drop, List.getElem?_take, Nat.add_zero] at h7
            rw [if_pos (by omega)] at h7
            rw [List.getD_eq_getElem?_getD, h7]
            rfl
          rw [h6, hsx, sumTo_bl, hx n hn, sumL_take _ _ _ (Nat.le_refl _), UInt8.toNat_ofNat']
          omega
      · omega
    · omega
  · rintro ⟨n, H⟩
    have hn : s.size = n + 2 := by rw [← bl_length]; exact H.len
    have hp := H.pos
    have e2 : s.size - 2 = n := by omega
    have e1 : s.size - 1 = n + 1 := by omega
    have hsx : (s.extract 0 n).size = n := by rw [ex_size _ _ _ (by omega) (by omega)]; omega
    have hok : lineOK s = true := by
      rw [lineOK_iff, e2, e1]
      refine ⟨by omega, (text_iff _).2 ⟨by omega, fun i hi => ?_⟩, ?_, ?_, ?_⟩
      · rw [hsx] at hi
        rw [bl_getD, hx n hn, List.getD_eq_getElem?_getD, List.getElem?_take, if_pos hi, ← List.getD_eq_getElem?_getD]
        exact H.tx i hi
      · rw [at_, bl_getD, H.bl]; rfl
      · rw [at_, bl_getD, H.sg]; omega
      · rw [at_, bl_getD, H.sg]; omega
    rw [lineE, if_neg (by omega), if_pos hok, if_pos ?_]
    rw [e2, e1]
    apply bl_inj
    rw [bl_extract, hn]
    have h1 : bl (signS (s.extract 0 n)) = [UInt8.ofNat (97 + sumL (bl s) n % 13)] := by
      rw [signS, hsx, sumTo_bl, hx n hn, sumL_take _ _ _ (Nat.le_refl _)]
      rfl
    rw [h1]
    have h2 : (bl s).getD (n + 1) 0 = UInt8.ofNat (97 + sumL (bl s) n % 13) := by
      apply UInt8.toNat_inj.1
      rw [H.sg, UInt8.toNat_ofNat']
      omega
    have hl := H.len
    rw [List.take_of_length_le (by omega), List.drop_eq_getElem_cons (by omega), List.drop_of_length_le (by omega)]
    rw [List.getD_eq_getElem?_getD, List.getElem?_eq_getElem (by omega), Option.getD_some] at h2
    rw [h2]
theorem take_drop_one {l : List UInt8} {i : Nat} (h : i < l.length) : (l.take (i + 1)).drop i = [l.getD i 0] := by
  rw [List.drop_take, List.drop_eq_getElem_cons h]
  have : i + 1 - i = 1 := by omega
  rw [this, List.take_succ_cons, List.take_zero, List.getD_eq_getElem?_getD, List.getElem?_eq_getElem h, Option.getD_some]
theorem set_cut {l : List UInt8} {i : Nat} (h : i < l.length) (c : UInt8) : l.set i c = l.take i ++ c :: l.drop (i + 1) := by
  rw [List.set_eq_take_append_cons_drop, if_pos h]
theorem swap_cut {l : List UInt8} {i j : Nat} (hij : i < j) (h : j < l.length) : (l.take i ++ [l.getD j 0] ++ (l.take j).drop (i + 1) ++ [l.getD i 0] ++ l.drop (j + 1)) = (l.set i (l.getD j 0)).set j (l.getD i 0) := by
  rw [set_cut (l := l.set i (l.getD j 0)) (by rw [List.length_set]; exact h), List.take_set, List.drop_set_of_lt (by omega), set_cut (l := l.take j) (by rw [List.length_take]; omega), List.take_take, Nat.min_eq_left (by omega)]
  simp
theorem enc_small : ∀ c : Fin 256, (Utf8.encode (c.1 : Int)).size ≤ 2 := by decide
theorem enc_ascii : ∀ c : Fin 128, Utf8.encode (c.1 : Int) = ⟨#[UInt8.ofNat c.1]⟩ := by decide
theorem chgE {L : ByteArray} {n p : Nat} {sg : Int} (H : Ln (bl L) n) (hp : p < L.size) (h0 : 0 ≤ sg) (h1 : sg < 128) (hne : ¬ sg = ((L.data.getD p 0).toNat : Int)) : ¬ lineE (L.extract 0 p ++ Utf8.encode sg ++ L.extract (p + 1) L.size) = 0 := by
  intro hE
  obtain ⟨m, K⟩ := (lineE_iff _).1 hE
  have he := enc_ascii ⟨sg.toNat, by omega⟩
  rw [show ((⟨sg.toNat, by omega⟩ : Fin 128).1 : Int) = sg by show ((sg.toNat : Nat) : Int) = sg; omega] at he
  have hl := bl_length L
  have hb : bl (L.extract 0 p ++ Utf8.encode sg ++ L.extract (p + 1) L.size) = (bl L).set p (UInt8.ofNat sg.toNat) := by
    rw [bl_append, bl_append, bl_extract, bl_extract, he, List.drop_zero, ← hl, List.take_length, set_cut (by omega)]
    show (bl L).take p ++ [UInt8.ofNat sg.toNat] ++ _ = _
    rw [List.append_assoc]; rfl
  rw [hb] at K
  have hm : m = n := by
    have h2 := K.len
    rw [List.length_set, H.len] at h2
    omega
  subst hm
  refine chg_law H (by rw [← H.len, hl]; exact hp) (fun e => hne ?_) K
  rw [bl_getD, ← e, UInt8.toNat_ofNat']
  omega
theorem swapE {L : ByteArray} {n i j : Nat} (H : Ln (bl L) n) (hij : i < j) (hj : j < L.size) (hne : L.data.getD i 0 ≠ L.data.getD j 0) : ¬ lineE (L.extract 0 i ++ L.extract j (j + 1) ++ L.extract (i + 1) j ++ L.extract i (i + 1) ++ L.extract (j + 1) L.size) = 0 := by
  intro hE
  obtain ⟨m, K⟩ := (lineE_iff _).1 hE
  have hl := bl_length L
  have hb : bl (L.extract 0 i ++ L.extract j (j + 1) ++ L.extract (i + 1) j ++ L.extract i (i + 1) ++ L.extract (j + 1) L.size) = ((bl L).set i ((bl L).getD j 0)).set j ((bl L).getD i 0) := by
    rw [← swap_cut hij (by omega)]
    simp only [bl_append, bl_extract]
    rw [List.drop_zero, ← hl, List.take_length, take_drop_one (by omega), take_drop_one (by omega)]
  rw [hb] at K
  have hm : m = n := by
    have h2 := K.len
    rw [List.length_set, List.length_set, H.len] at h2
    omega
  subst hm
  rw [bl_getD, bl_getD] at hne
  exact swap_law H hij (by rw [← H.len, hl]; exact hj) hne K
end Go.Proofs.YtepaekbjoombpaaGreatDoor
