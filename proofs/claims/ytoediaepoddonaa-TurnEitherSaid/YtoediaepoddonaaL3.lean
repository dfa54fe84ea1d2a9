/- Codes of beginnings; what several places say together. The plain law: no program. No condition. -/
import Derived.Test.YtoediaepoddonaaL2
import Derived.Test.YtoediaepoddonaaT4
namespace Go.Proofs.Ytoediaepoddonaa
set_option linter.unusedSimpArgs false
set_option linter.unusedVariables false
/-- The code of a beginning, of whom is left. -/
def codeF : List Nat → List Nat → List Nat
  | _, [] => []
  | l, x :: xs => l.idxOf x :: codeF (turned l (l.idxOf x)) xs
theorem codeF_length : ∀ (xs l : List Nat), (codeF l xs).length = xs.length
  | [], l => rfl
  | x :: xs, l => by simp [codeF, codeF_length xs]
theorem nodup_turned {l : List Nat} {c : Nat} (hc : c < l.length) (h : l.Nodup) : (turned l c).Nodup ∧ l.getD c 0 ∉ turned l c := by
  have := (turned_perm hc).nodup_iff.2 h
  rw [List.nodup_cons] at this
  exact ⟨this.2, this.1⟩
theorem idx_get {l : List Nat} {c : Nat} (hc : c < l.length) (h : l.Nodup) : l.idxOf (l.getD c 0) = c := by
  have hi := List.idxOf_lt_length_of_mem (List.getElem_mem hc)
  have he : l[l.idxOf l[c]] = l[c] := List.getElem_idxOf hi
  have hx : l.getD c 0 = l[c] := by rw [List.getD, List.getElem?_eq_getElem hc]; rfl
  rw [hx]
  rcases Nat.lt_trichotomy (l.idxOf l[c]) c with h1 | h1 | h1
  · exact absurd he ((List.pairwise_iff_getElem.1 h) _ _ hi hc h1)
  · exact h1
  · exact absurd he.symm ((List.pairwise_iff_getElem.1 h) _ _ hc hi h1)
theorem get_idx {l : List Nat} {x : Nat} (h : x ∈ l) : l.getD (l.idxOf x) 0 = x := by
  have hi := List.idxOf_lt_length_of_mem h
  rw [List.getD, List.getElem?_eq_getElem hi]
  exact List.getElem_idxOf hi
theorem code_ord : ∀ (cs l : List Nat), l.Nodup → fits l.length cs → codeF l (ordF l cs) = cs
  | [], l, _, _ => rfl
  | c :: cs, l, h, hf => by
    rw [ordF, codeF, idx_get hf.1 h, code_ord cs _ (nodup_turned hf.1 h).1]
    rw [turned_length hf.1]; exact hf.2
theorem mem_turned {l : List Nat} {c y : Nat} (hc : c < l.length) (hy : y ∈ l) (hne : y ≠ l.getD c 0) : y ∈ turned l c := by
  have := (turned_perm hc).mem_iff.2 hy
  rw [List.mem_cons] at this
  rcases this with h | h
  · exact absurd h hne
  · exact h
/-- A list of different ones of those that are left. -/
def begF (l xs : List Nat) : Prop := xs.Nodup ∧ ∀ x ∈ xs, x ∈ l
theorem begF_cons {l xs : List Nat} {x : Nat} (h : begF l (x :: xs)) : x ∈ l ∧ begF (turned l (l.idxOf x)) xs := by
  obtain ⟨h1, h2⟩ := h
  rw [List.nodup_cons] at h1
  have hx := h2 x (by simp)
  refine ⟨hx, h1.2, fun y hy => ?_⟩
  refine mem_turned (List.idxOf_lt_length_of_mem hx) (h2 y (by simp [hy])) ?_
  rw [get_idx hx]
  rintro rfl
  exact h1.1 hy
theorem code_fits : ∀ (xs l : List Nat), begF l xs → fits l.length (codeF l xs)
  | [], l, _ => trivial
  | x :: xs, l, h => by
    obtain ⟨h1, h2⟩ := begF_cons h
    have := List.idxOf_lt_length_of_mem h1
    refine ⟨this, ?_⟩
    have h3 := code_fits xs _ h2
    rw [turned_length this] at h3
    exact h3
theorem ord_code : ∀ (xs l : List Nat), begF l xs → ordF l (codeF l xs) = xs
  | [], l, _ => rfl
  | x :: xs, l, h => by
    obtain ⟨h1, h2⟩ := begF_cons h
    rw [codeF, ordF, get_idx h1, ord_code xs _ h2]
theorem codeF_snoc : ∀ (xs l : List Nat) (x : Nat), codeF l (xs ++ [x]) = codeF l xs ++ [(aft l (codeF l xs)).idxOf x]
  | [], l, x => rfl
  | y :: xs, l, x => by simp [codeF, aft, codeF_snoc xs]
theorem codeF_take : ∀ (xs l : List Nat) (k : Nat), codeF l (xs.take k) = (codeF l xs).take k
  | [], l, k => by simp [codeF]
  | x :: xs, l, 0 => by simp [codeF]
  | x :: xs, l, k + 1 => by simp [codeF, codeF_take xs]
theorem ordF_take : ∀ (cs l : List Nat) (k : Nat), ordF l (cs.take k) = (ordF l cs).take k
  | [], l, k => by simp [ordF]
  | c :: cs, l, 0 => by simp [ordF]
  | c :: cs, l, k + 1 => by simp [ordF, ordF_take cs]
theorem begF_take {l xs : List Nat} (h : begF l xs) (k : Nat) : begF l (xs.take k) :=
  ⟨h.1.sublist (List.take_sublist k xs), fun x hx => h.2 x (List.mem_of_mem_take hx)⟩
theorem begF_perm {l xs : List Nat} (h : xs.Perm l) (hl : l.Nodup) : begF l xs := ⟨h.nodup_iff.2 hl, fun x hx => h.mem_iff.1 hx⟩

/-! what several places say together -/
/-- The least number, from one on by steps of another, that leaves a rest; none if there is none. -/
def leastF (r b c t : Nat) : Option Nat := ((List.range t).find? fun k => (r + k * b) % t == c).map fun k => r + k * b
def andF (r b c t : Nat) : Option (Nat × Nat) :=
  if r % Nat.gcd b t = c % Nat.gcd b t then (leastF r b c t).map fun x => (x, b / Nat.gcd b t * t) else none
theorem crt_small : ∀ t < 13, ∀ b < t, ∀ r < t, ∀ c < t, r % Nat.gcd b t = c % Nat.gcd b t → ((List.range (t / Nat.gcd b t)).any fun k => (r + k * b) % t == c) = true := by decide +kernel
theorem crt {r b c t : Nat} (ht : t ≤ 12) (hc : c < t) (h : r % Nat.gcd b t = c % Nat.gcd b t) : ∃ k, k < t / Nat.gcd b t ∧ (r + k * b) % t = c := by
  have hg : Nat.gcd (b % t) t = Nat.gcd b t := by rw [Nat.gcd_comm b t, Nat.gcd_rec t b]
  have hd : Nat.gcd b t ∣ t := Nat.gcd_dvd_right b t
  have h1 := crt_small t (by omega) (b % t) (Nat.mod_lt _ (by omega)) (r % t) (Nat.mod_lt _ (by omega)) c hc (by
    rw [hg, Nat.mod_mod_of_dvd _ hd]; exact h)
  rw [hg, List.any_eq_true] at h1
  obtain ⟨k, hk, he⟩ := h1
  refine ⟨k, List.mem_range.1 hk, ?_⟩
  have he : (r % t + k * (b % t)) % t = c := by simpa using he
  rw [← he]
  conv => lhs; rw [Nat.add_mod, Nat.mul_mod]
  conv => rhs; rw [Nat.add_mod, Nat.mul_mod, Nat.mod_mod, Nat.mod_mod]
theorem leastF_some {r b c t : Nat} (ht : t ≤ 12) (hc : c < t) (h : r % Nat.gcd b t = c % Nat.gcd b t) : ∃ k, k < t / Nat.gcd b t ∧ leastF r b c t = some (r + k * b) ∧ (r + k * b) % t = c ∧ ∀ j < k, (r + j * b) % t ≠ c := by
  obtain ⟨k, hk, he⟩ := crt ht hc h
  have hkt : k < t := Nat.lt_of_lt_of_le hk (Nat.div_le_self _ _)
  cases hf : (List.range t).find? fun k => (r + k * b) % t == c with
  | none =>
    rw [List.find?_eq_none] at hf
    exact absurd he (by simpa using hf k (List.mem_range.2 hkt))
  | some j =>
    have hp := List.find?_some hf
    have hf0 : leastF r b c t = some (r + j * b) := by unfold leastF; rw [hf]; rfl
    rw [List.find?_range_eq_some] at hf
    refine ⟨j, ?_, hf0, by simpa using hp, fun i hi => by simpa using hf.2.2 i hi⟩
    rcases Nat.lt_or_ge k j with hlt | hge
    · exact absurd he (by simpa using hf.2.2 k hlt)
    · omega
/-- What the places of a code say together, from one on. -/
def findG (n : Nat) : Nat → List Nat → Nat × Nat → Option (Nat × Nat)
  | _, [], p => some p
  | i, c :: cs, p => match andF p.1 p.2 c (n - i) with
    | some q => findG n (i + 1) cs q
    | none => none
def findF (n : Nat) (cs : List Nat) : Option (Nat × Nat) := findG n 0 cs (0, 1)
theorem perF_dvd (n : Nat) (hn : n ≤ 12) : ∀ (k : Nat), k ≤ n → ∀ x : Nat, (∀ i < k, (n - i) ∣ x) → perF n k ∣ x
  | 0, _, x, _ => Nat.one_dvd x
  | k + 1, hk, x, h => by
    have e : perF n (k + 1) = Nat.lcm (perF n k) (n - k) := by
      rw [perF, Nat.lcm, Nat.mul_comm, Nat.mul_comm (perF n k), Nat.mul_div_assoc _ (Nat.gcd_dvd_left _ _)]
    rw [e]
    exact Nat.lcm_dvd (perF_dvd n hn k (by omega) x fun i hi => h i (by omega)) (h k (by omega))
theorem dvd_perF (n k i : Nat) (hn : n ≤ 12) (hk : k ≤ n) (hi : i < k) : (n - i) ∣ perF n k := by
  have : ∀ n < 13, ∀ k < n + 1, ∀ i < k, (n - i) ∣ perF n k := by decide +kernel
  exact this n (by omega) k (by omega) i hi
theorem perF_le2 (n k : Nat) (hn : n ≤ 12) (hk : k ≤ n) : perF n k ≤ 27720 ∧ 0 < perF n k := perF_le n k hn hk
/-- Two places of a code contradict each other. -/
def clashP (n : Nat) (cs : List Nat) (k i : Nat) : Prop := cs.getD k 0 % Nat.gcd (n - k) (n - i) ≠ cs.getD i 0 % Nat.gcd (n - k) (n - i)
theorem per_gcd (n i g : Nat) (hn : n ≤ 12) (hi : i < n) : ∀ r c : Nat, c < n - i → r < perF n i → (∀ k < i, r % Nat.gcd (n - k) (n - i) = c % Nat.gcd (n - k) (n - i)) → r % Nat.gcd (perF n i) (n - i) = c % Nat.gcd (perF n i) (n - i) := by
  intro r c hc hr h
  -- the difference is divided by each of these, so by what they have together
  have key : ∀ n < 13, ∀ i < n, ∀ r < n - i, ∀ c < n - i, (∀ k < i, r % Nat.gcd (n - k) (n - i) = c % Nat.gcd (n - k) (n - i)) → r % Nat.gcd (perF n i) (n - i) = c % Nat.gcd (perF n i) (n - i) := by decide +kernel
  have h1 := key n (by omega) i hi (r % (n - i)) (Nat.mod_lt _ (by omega)) c hc fun k hk => by
    rw [Nat.mod_mod_of_dvd _ (Nat.gcd_dvd_right _ _)]; exact h k hk
  rwa [Nat.mod_mod_of_dvd _ (Nat.gcd_dvd_right _ _)] at h1
/-- The state in the midst of it: all places so far. -/
def midP (n : Nat) (cs : List Nat) (i r b : Nat) : Prop := b = perF n i ∧ r < b ∧ ∀ k < i, r % (n - k) = cs.getD k 0
theorem and_some {n i r b : Nat} {cs : List Nat} (hn : n ≤ 12) (hi : i < n) (hil : i < cs.length) (hf : fits n cs) (m : midP n cs i r b) :
    (∀ q, andF r b (cs.getD i 0) (n - i) = some q → midP n cs (i + 1) q.1 q.2) ∧
    (andF r b (cs.getD i 0) (n - i) = none → ∃ k < i, clashP n cs k i) := by
  obtain ⟨rfl, hr, hk⟩ := m
  have hc := fits_get _ _ _ hf hil
  by_cases hg : r % Nat.gcd (perF n i) (n - i) = cs.getD i 0 % Nat.gcd (perF n i) (n - i)
  · obtain ⟨k, h1, h2, h3, h4⟩ := leastF_some (by omega) hc hg
    have he : andF r (perF n i) (cs.getD i 0) (n - i) = some (r + k * perF n i, perF n i / Nat.gcd (perF n i) (n - i) * (n - i)) := by
      rw [andF, if_pos hg, h2]; rfl
    refine ⟨fun q hq => ?_, (fun hq => by rw [he] at hq; cases hq)⟩
    rw [he] at hq
    cases hq
    refine ⟨rfl, ?_, fun j hj => ?_⟩
    · show r + k * perF n i < perF n i / Nat.gcd (perF n i) (n - i) * (n - i)
      have e : perF n i / Nat.gcd (perF n i) (n - i) * (n - i) = perF n i * ((n - i) / Nat.gcd (perF n i) (n - i)) := by
        rw [← Nat.mul_div_assoc _ (Nat.gcd_dvd_right _ _), Nat.mul_comm, ← Nat.mul_div_assoc _ (Nat.gcd_dvd_left _ _), Nat.mul_comm]
      rw [e]
      have : (k + 1) * perF n i ≤ ((n - i) / Nat.gcd (perF n i) (n - i)) * perF n i := Nat.mul_le_mul_right _ h1
      rw [Nat.mul_comm (perF n i)]
      rw [Nat.add_mul] at this
      omega
    · show (r + k * perF n i) % (n - j) = cs.getD j 0
      rcases Nat.lt_or_ge j i with hlt | hge
      · obtain ⟨d, hd⟩ := dvd_perF n i j hn (by omega) hlt
        rw [hd, Nat.mul_left_comm, Nat.add_mul_mod_self_left, hk j hlt]
      · have : j = i := by omega
        subst this
        exact h3
  · have he : andF r (perF n i) (cs.getD i 0) (n - i) = none := by rw [andF, if_neg hg]
    refine ⟨(fun q hq => by rw [he] at hq; cases hq), fun _ => ?_⟩
    apply Classical.byContradiction
    intro hno
    refine hg (per_gcd n i 0 hn hi _ _ hc hr fun k hki => ?_)
    apply Classical.byContradiction
    intro hne
    refine hno ⟨k, hki, fun hE => hne ?_⟩
    rw [← hE, ← hk k hki, Nat.mod_mod_of_dvd _ (Nat.gcd_dvd_left _ _)]
theorem findG_some {n : Nat} {cs : List Nat} (hn : n ≤ 12) (hl : cs.length ≤ n) (hf : fits n cs) : ∀ (rest : List Nat) (i r b : Nat), cs.drop i = rest → i ≤ cs.length → midP n cs i r b →
    (∀ q, findG n i rest (r, b) = some q → midP n cs cs.length q.1 q.2) ∧ (findG n i rest (r, b) = none → ∃ i' < cs.length, ∃ k < i', clashP n cs k i')
  | [], i, r, b, hd, hi, m => by
    have : cs.length ≤ i := List.drop_eq_nil_iff.1 hd
    have : i = cs.length := by omega
    subst this
    exact ⟨(fun q hq => by cases hq; exact m), (fun h => by cases h)⟩
  | c :: rest, i, r, b, hd, hi, m => by
    have hil : i < cs.length := by
      apply Classical.byContradiction
      intro h
      rw [List.drop_eq_nil_iff.2 (by omega)] at hd
      cases hd
    have hc : cs.getD i 0 = c := by
      rw [List.drop_eq_getElem_cons hil] at hd
      rw [List.getD, List.getElem?_eq_getElem hil]
      exact (List.cons.inj hd).1
    have hd2 : cs.drop (i + 1) = rest := by
      rw [List.drop_eq_getElem_cons hil] at hd
      exact (List.cons.inj hd).2
    have ha := and_some (r := r) (b := b) hn (by omega) hil hf m
    rw [hc] at ha
    rw [findG]
    cases hq : andF r b c (n - i) with
    | none => exact ⟨(fun q h => by cases h), fun _ => ⟨i, hil, ha.2 hq⟩⟩
    | some p => exact findG_some hn hl hf rest (i + 1) p.1 p.2 hd2 (by omega) (ha.1 p hq)
theorem find_some {n : Nat} {cs : List Nat} (hn : n ≤ 12) (hl : cs.length ≤ n) (hf : fits n cs) :
    (∀ q, findF n cs = some q → midP n cs cs.length q.1 q.2) ∧ (findF n cs = none → ∃ i < cs.length, ∃ k < i, clashP n cs k i) :=
  findG_some hn hl hf cs 0 0 1 rfl (Nat.zero_le _) ⟨rfl, by omega, fun k hk => by omega⟩
/-- A step makes a code. -/
def makesP (n : Nat) (cs : List Nat) (s : Nat) : Prop := ∀ k < cs.length, s % (n - k) = cs.getD k 0
theorem makes_clash {n : Nat} {cs : List Nat} {s k i : Nat} (h : makesP n cs s) (hk : k < i) (hi : i < cs.length) : ¬ clashP n cs k i := by
  intro hc
  apply hc
  rw [← h k (by omega), ← h i hi, Nat.mod_mod_of_dvd _ (Nat.gcd_dvd_left _ _), Nat.mod_mod_of_dvd _ (Nat.gcd_dvd_right _ _)]
/-- The steps that make a code are one, by its period. -/
theorem makes_iff {n : Nat} {cs : List Nat} {r : Nat} (hn : n ≤ 12) (hl : cs.length ≤ n) (h : makesP n cs r) (s : Nat) : makesP n cs s ↔ s % perF n cs.length = r % perF n cs.length := by
  constructor
  · intro h2
    have hw : ∀ a b : Nat, a ≤ b → makesP n cs a → makesP n cs b → perF n cs.length ∣ b - a := by
      intro a b hab h3 h4
      refine perF_dvd n hn _ hl _ fun i hi => ?_
      exact Nat.dvd_of_mod_eq_zero (Nat.sub_mod_eq_zero_of_mod_eq ((h4 i hi).trans (h3 i hi).symm))
    rcases Nat.le_total r s with hle | hle
    · obtain ⟨d, hd⟩ := hw r s hle h h2
      have : s = r + perF n cs.length * d := by omega
      rw [this, Nat.add_mul_mod_self_left]
    · obtain ⟨d, hd⟩ := hw s r hle h2 h
      have : r = s + perF n cs.length * d := by omega
      rw [this, Nat.add_mul_mod_self_left]
  · intro he k hk
    have hd := dvd_perF n cs.length k hn hl hk
    rw [← h k hk, ← Nat.mod_mod_of_dvd s hd, he, Nat.mod_mod_of_dvd r hd]
end Go.Proofs.Ytoediaepoddonaa
