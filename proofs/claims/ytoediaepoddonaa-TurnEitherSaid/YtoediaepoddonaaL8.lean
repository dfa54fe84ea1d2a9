/- Beginnings of orders: what they say, and where they contradict. The plain law: no program. No condition. -/
import Derived.Test.YtoediaepoddonaaT32
import Derived.Test.YtoediaepoddonaaT20
namespace Go.Proofs.Ytoediaepoddonaa
set_option linter.unusedSimpArgs false
set_option linter.unusedVariables false
theorem begE_beg {n : Nat} {l : List Nat} (h1 : 1 ≤ n) (h2 : n ≤ 12) (hb : begF (List.range n) l) (hl : l.length ≤ n) : begE n (zs l) = 0 := by
  have hll : (zs l).length = l.length := zs_length l
  have hin : inB 0 ((n : Int) - 1) (zs l) = true := by
    simp only [inB, List.all_eq_true, Bool.and_eq_true, decide_eq_true_eq]
    intro x hx
    simp only [zs, List.mem_map] at hx
    obtain ⟨y, hy, rfl⟩ := hx
    have := List.mem_range.1 (hb.2 y hy)
    omega
  have hnd : (zs l).Nodup := List.pairwise_map.2 (hb.1.imp fun h1 h2 => h1 (by omega))
  rw [begE, if_pos (by omega), if_neg (by omega), if_pos hin, if_pos hnd]
theorem getD_take {cs : List Nat} {b i : Nat} (h : i < b) : (cs.take b).getD i 0 = cs.getD i 0 := by simp [List.getD, List.getElem?_take, h]
theorem clash_take {n : Nat} {cs : List Nat} {b k i : Nat} (hk : k < b) (hi : i < b) : clashP n (cs.take b) k i ↔ clashP n cs k i := by
  unfold clashP
  rw [getD_take hk, getD_take hi]
theorem find_mid {n : Nat} {cs : List Nat} {q : Nat × Nat} (hn : n ≤ 12) (hl : cs.length ≤ n) (hf : fits n cs) (h : findF n cs = some q) : q.2 = perF n cs.length ∧ q.1 < q.2 ∧ makesP n cs q.1 :=
  have := (find_some hn hl hf).1 q h
  ⟨this.1, this.2.1, this.2.2⟩
theorem find_none_iff {n : Nat} {cs : List Nat} (hn : n ≤ 12) (hl : cs.length ≤ n) (hf : fits n cs) : findF n cs = none ↔ ∃ p, clashF n cs = some p := by
  constructor
  · intro h
    obtain ⟨i, hi, k, hk, hc⟩ := (find_some hn hl hf).2 h
    cases hq : clashF n cs with
    | some p => exact ⟨p, rfl⟩
    | none => exact absurd hc (clashF_none hq hk hi)
  · rintro ⟨p, hp⟩
    obtain ⟨h1, h2, h3⟩ := clashF_some hp
    cases hq : findF n cs with
    | none => rfl
    | some q => exact absurd h3 (makes_clash (find_mid hn hl hf hq).2.2 h1 h2)
theorem makes_take {n : Nat} {cs : List Nat} {s b : Nat} (h : makesP n cs s) : makesP n (cs.take b) s := by
  intro k hk
  rw [List.length_take] at hk
  rw [getD_take (by omega), h k (by omega)]
theorem take_take_le {cs : List Nat} {a b : Nat} (h : a ≤ b) : (cs.take b).take a = cs.take a := by rw [List.take_take, Nat.min_eq_left h]
theorem fits_cut : ∀ {cs : List Nat} {n : Nat} (b : Nat), fits n cs → fits n (cs.take b)
  | [], n, b, h => by simp [fits]
  | c :: cs, n, 0, h => trivial
  | c :: cs, n, b + 1, h => ⟨h.1, fits_cut b h.2⟩
theorem per_dvd {n a b : Nat} (hn : n ≤ 12) (hab : a ≤ b) (hb : b ≤ n) : perF n a ∣ perF n b :=
  perF_dvd n hn a (by omega) _ fun i hi => dvd_perF n b i hn hb (by omega)
/-- TurnMore's law. -/
theorem more_none {n : Nat} {cs : List Nat} {a b : Nat} (hn : n ≤ 12) (hl : cs.length ≤ n) (hf : fits n cs) (hab : a ≤ b) (hb : b ≤ cs.length) (h : findF n (cs.take a) = none) :
    ∃ p, clashF n (cs.take a) = some p ∧ findF n (cs.take b) = none ∧ p.1 < p.2 ∧ p.2 < b ∧ clashP n (cs.take b) p.1 p.2 := by
  have la : (cs.take a).length ≤ n := by rw [List.length_take]; omega
  have lb : (cs.take b).length ≤ n := by rw [List.length_take]; omega
  obtain ⟨p, hp⟩ := (find_none_iff hn la (fits_cut a hf)).1 h
  obtain ⟨h1, h2, h3⟩ := clashF_some hp
  rw [List.length_take] at h2
  have hc : clashP n (cs.take b) p.1 p.2 := by
    rw [clash_take (by omega) (by omega)] at h3 ⊢
    exact h3
  refine ⟨p, hp, ?_, h1, by omega, hc⟩
  refine (find_none_iff hn lb (fits_cut b hf)).2 ?_
  cases hq : clashF n (cs.take b) with
  | some q => exact ⟨q, rfl⟩
  | none => exact absurd hc (clashF_none hq h1 (by rw [List.length_take]; omega))
theorem more_some {n : Nat} {cs : List Nat} {a b : Nat} {q q' : Nat × Nat} (hn : n ≤ 12) (hl : cs.length ≤ n) (hf : fits n cs) (hab : a ≤ b) (hb : b ≤ cs.length) (h : findF n (cs.take a) = some q) (h' : findF n (cs.take b) = some q') :
    q.2 ∣ q'.2 ∧ q.2 ≤ q'.2 ∧ q.1 ≤ q'.1 ∧ (q'.1 - q.1) % q.2 = 0 := by
  have ea : (cs.take a).length = a := by rw [List.length_take]; omega
  have eb : (cs.take b).length = b := by rw [List.length_take]; omega
  obtain ⟨p1, p2, p3⟩ := find_mid hn (by omega) (fits_cut a hf) h
  obtain ⟨r1, r2, r3⟩ := find_mid hn (by omega) (fits_cut b hf) h'
  rw [ea] at p1
  rw [eb] at r1
  have hd : q.2 ∣ q'.2 := by rw [p1, r1]; exact per_dvd hn hab (by omega)
  have hm := makes_take (b := a) r3
  rw [take_take_le hab] at hm
  have h3 := (makes_iff hn (by omega) p3 q'.1).1 hm
  rw [ea, ← p1, Nat.mod_eq_of_lt p2] at h3
  have hle : q.1 ≤ q'.1 := by rw [← h3]; exact Nat.mod_le _ _
  refine ⟨hd, Nat.le_of_dvd (by omega) hd, hle, ?_⟩
  rw [← h3]
  have := Nat.mod_add_div q'.1 q.2
  have e : q'.1 - q'.1 % q.2 = q.2 * (q'.1 / q.2) := by omega
  rw [e, Nat.mul_mod_right]
/-- A step's order begins so just if the step makes the beginning's code. -/
theorem round_begin {n a : Nat} {s : Int} {x cs : List Nat} (hs : 1 ≤ s) (hx : x.Perm (List.range n)) (hcs : cs = codeF (List.range n) x) (ha : a ≤ n) : zs ((roundL n s).take a) = zs (x.take a) ↔ makesP n (cs.take a) (s - 1).toNat := by
  have h1 := take_eq_iff (i := a) (round_perm n s) hx
  have hc : codeF (List.range n) (roundL n s) = stepC n s := code_ord _ _ List.nodup_range (by rw [List.length_range]; exact stepC_fits n s)
  have hl : cs.length = n := by rw [hcs, codeF_length, isOrd_len hx]
  rw [hc, ← hcs] at h1
  rw [h1]
  have hg : ∀ k, k < n → (stepC n s).getD k 0 = (s - 1).toNat % (n - k) := fun k hk => by
    rw [stepC_get hk]
    have e : s - 1 = ((s - 1).toNat : Int) := by omega
    conv => lhs; rw [e]
    have : (((s - 1).toNat : Int) % ((n - k : Nat) : Int)) = (((s - 1).toNat % (n - k) : Nat) : Int) := rfl
    rw [this, Int.toNat_natCast]
  constructor
  · intro h k hk
    have h := zs_inj h
    rw [List.length_take] at hk
    rw [← h, getD_take (by omega), hg k (by omega)]
  · intro h
    congr 1
    apply List.ext_getElem
    · rw [List.length_take, List.length_take, stepC_length, hl]
    · intro k h2 h3
      have h4 := h k (by simpa using h3)
      rw [List.length_take] at h3
      have e1 : ((stepC n s).take a)[k] = ((stepC n s).take a).getD k 0 := by rw [List.getD, List.getElem?_eq_getElem h2]; rfl
      have e2 : (cs.take a)[k] = (cs.take a).getD k 0 := by rw [List.getD, List.getElem?_eq_getElem (by rw [List.length_take]; exact h3)]; rfl
      rw [e1, e2, ← h4, getD_take (by omega), hg k (by omega)]
end Go.Proofs.Ytoediaepoddonaa
