/- Balances of a book: the plain law. -/
import Derived.Test.YtepaekbjoombpaaGreatDoorA5
namespace Go.Proofs.YtepaekbjoombpaaGreatDoor
open Go Go.Proofs Go.Eng Tab
/-- What an entry adds to the balance of an account on a day. -/
def amt (day i : Int) (e : En) : Int := if e.d ≤ day then (if e.t = i then e.a else 0) - (if e.f = i then e.a else 0) else 0
def balA (es : List En) (day i : Int) : Int := (es.map (amt day i)).sum
def bals (n : Nat) (es : List En) (day : Int) : List Int := (List.range n).map fun i : Nat => balA es day i
theorem bals_length (n : Nat) (es : List En) (day : Int) : (bals n es day).length = n := by simp [bals]
theorem bals_get {n i : Nat} (es : List En) (day : Int) (hi : i < n) : (bals n es day).getD i 0 = balA es day i := by simp [bals, List.getD, hi]
theorem balA_append (es fs : List En) (day i : Int) : balA (es ++ fs) day i = balA es day i + balA fs day i := by simp [balA]
theorem balA_cons (e : En) (es : List En) (day i : Int) : balA (e :: es) day i = amt day i e + balA es day i := by simp [balA]
theorem balA_nil (day i : Int) : balA [] day i = 0 := rfl
theorem balA_one (e : En) (day i : Int) : balA [e] day i = amt day i e := by simp [balA]
theorem bals_nil (n : Nat) (day : Int) : bals n [] day = List.replicate n 0 := by
  apply List.ext_getElem <;> simp [bals, balA]
theorem amt_bound {acc : Int} {e : En} (he : okE acc e) (day i : Int) : -1000 ≤ amt day i e ∧ amt day i e ≤ 1000 := by
  obtain ⟨_, _, _, h1, h2⟩ := he
  unfold amt
  split <;> (try split) <;> (try split) <;> omega
theorem balA_bound {acc : Int} (day i : Int) : ∀ {es : List En}, (∀ e ∈ es, okE acc e) → -(1000 * (es.length : Int)) ≤ balA es day i ∧ balA es day i ≤ 1000 * (es.length : Int)
  | [], _ => by simp [balA]
  | e :: es, H => by
    have h1 := amt_bound (H e (List.mem_cons_self ..)) day i
    have h2 := balA_bound day i (es := es) fun x hx => H x (List.mem_cons_of_mem _ hx)
    rw [balA_cons, List.length_cons]
    push_cast
    omega
theorem ext_getD {xs ys : List Int} (hl : xs.length = ys.length) (H : ∀ i < xs.length, xs.getD i 0 = ys.getD i 0) : xs = ys := by
  apply List.ext_getElem hl
  intro i h1 h2
  have := H i h1
  simpa [List.getD, List.getElem?_eq_getElem h1, List.getElem?_eq_getElem h2] using this
theorem getD_set (xs : List Int) (i j : Nat) (v : Int) : (xs.set i v).getD j 0 = if i = j ∧ i < xs.length then v else xs.getD j 0 := by
  simp only [List.getD, List.getElem?_set]
  by_cases h : i = j
  · subst h
    by_cases h2 : i < xs.length <;> simp [h2]
  · simp [h]
/-- An amount goes from one account to another one. -/
def giveL (xs : List Int) (f t : Nat) (m : Int) : List Int := (xs.set f (xs.getD f 0 - m)).set t ((xs.set f (xs.getD f 0 - m)).getD t 0 + m)
def takeL (xs : List Int) (f t : Nat) (m : Int) : List Int := (xs.set t (xs.getD t 0 + m)).set f ((xs.set t (xs.getD t 0 + m)).getD f 0 - m)
theorem giveL_length (xs : List Int) (f t : Nat) (m : Int) : (giveL xs f t m).length = xs.length := by simp [giveL]
theorem takeL_length (xs : List Int) (f t : Nat) (m : Int) : (takeL xs f t m).length = xs.length := by simp [takeL]
theorem giveL_get {xs : List Int} {f t i : Nat} (m : Int) (hf : f < xs.length) (ht : t < xs.length) : (giveL xs f t m).getD i 0 = xs.getD i 0 - (if f = i then m else 0) + (if t = i then m else 0) := by
  simp only [giveL, getD_set, List.length_set]
  by_cases h1 : t = i <;> by_cases h2 : f = i <;> by_cases h3 : f = t <;> simp_all <;> omega
theorem takeL_get {xs : List Int} {f t i : Nat} (m : Int) (hf : f < xs.length) (ht : t < xs.length) : (takeL xs f t m).getD i 0 = xs.getD i 0 - (if f = i then m else 0) + (if t = i then m else 0) := by
  simp only [takeL, getD_set, List.length_set]
  by_cases h1 : t = i <;> by_cases h2 : f = i <;> by_cases h3 : f = t <;> simp_all <;> omega
theorem bals_skip {n : Nat} {es : List En} {e : En} {day : Int} (hd : ¬ e.d ≤ day) : bals n (es ++ [e]) day = bals n es day := by
  unfold bals
  refine List.map_congr_left fun i _ => ?_
  rw [balA_append, balA_one, amt, if_neg hd]; omega
theorem bals_give {n : Nat} {es : List En} {e : En} {day : Int} {f t : Nat} (hd : e.d ≤ day) (hf : e.f = f) (ht : e.t = t) (hfn : f < n) (htn : t < n) : giveL (bals n es day) f t e.a = bals n (es ++ [e]) day := by
  refine ext_getD (by rw [giveL_length, bals_length, bals_length]) fun i hi => ?_
  rw [giveL_length, bals_length] at hi
  rw [giveL_get _ (by rw [bals_length]; exact hfn) (by rw [bals_length]; exact htn), bals_get _ _ hi, bals_get _ _ hi, balA_append, balA_one, amt, if_pos hd, hf, ht]
  simp only [Int.ofNat_inj]
  omega
theorem bals_take' {n : Nat} {es : List En} {e : En} {day : Int} {f t : Nat} (hd : e.d ≤ day) (hf : e.f = f) (ht : e.t = t) (hfn : f < n) (htn : t < n) : takeL (bals n es day) f t e.a = bals n (es ++ [e]) day := by
  rw [← bals_give hd hf ht hfn htn]
  refine ext_getD (by rw [giveL_length, takeL_length]) fun i hi => ?_
  rw [takeL_get _ (by rw [bals_length]; exact hfn) (by rw [bals_length]; exact htn), giveL_get _ (by rw [bals_length]; exact hfn) (by rw [bals_length]; exact htn)]
theorem bals_sub {n m : Nat} (es : List En) (day : Int) (h : m ≤ n) : (bals n es day).take m = bals m es day := by
  rw [bals, ← List.map_take, List.take_range, Nat.min_eq_left h]; rfl
theorem take_nextE {es : List En} {i : Nat} (hi : i < es.length) : es.take (i + 1) = es.take i ++ [es[i]] := by rw [List.take_add_one, List.getElem?_eq_getElem hi]; rfl
end Go.Proofs.YtepaekbjoombpaaGreatDoor
