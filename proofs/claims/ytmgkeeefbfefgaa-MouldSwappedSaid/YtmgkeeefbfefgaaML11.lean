/- Books with one want more, turned, apart, and full: the plain law. No condition. -/
import Derived.Test.YtmgkeeefbfefgaaML8
import Derived.Test.YtmgkeeefbfefgaaML9
namespace Go.Proofs.Ytmgkeeefbfefgaa
set_option linter.unusedSimpArgs false
set_option linter.unusedVariables false
set_option linter.defProp false
set_option linter.unusedSectionVars false
namespace MB
variable {sh mo c : Nat → Nat} {n D : Nat}
theorem clash_turn : clash mo sh = clash sh mo := by
  funext i k
  unfold clash
  rw [Bool.or_comm]
theorem fit_turn : fit mo sh = fit sh mo := by
  funext bg d
  unfold fit
  rw [clash_turn]
theorem go_turn : ∀ k bg, go mo sh D k bg = go sh mo D k bg
  | 0, _ => rfl
  | k + 1, bg => by
    rw [go, go, fit_turn]
    congr 1
    funext d
    rw [go_turn k]
theorem lof_turn : ∀ f bg fr, lof mo sh n f bg fr = lof sh mo n f bg fr
  | 0, _, _ => rfl
  | f + 1, bg, fr => by
    have e : ok1 mo sh = ok1 sh mo := by funext bg i; unfold ok1; rw [clash_turn]
    rw [lof, lof, e]
    congr 1
    funext best i
    rw [lof_turn f]
theorem free_turn {L : List Nat} : free mo sh L ↔ free sh mo L := ⟨fun h => h.imp fun h => ⟨h.2, h.1⟩, fun h => h.imp fun h => ⟨h.2, h.1⟩⟩
theorem right_turn : right mo sh c n ↔ right sh mo c n := ⟨fun h i k a b e f => ⟨(h i k a b e f).2, (h i k a b e f).1⟩, fun h i k a b e f => ⟨(h i k a b e f).2, (h i k a b e f).1⟩⟩
/-- One want more. -/
theorem load_more (f : Nat → Nat) (x : Nat) : load f n x ≤ load f (n + 1) x ∧ load f (n + 1) x ≤ load f n x + 1 := by
  unfold load
  rw [cnt_succ]
  split <;> omega
theorem great_more {D' : Nat} (G : Great sh mo n D) (G' : Great sh mo (n + 1) D') : D ≤ D' ∧ D' ≤ D + 1 := by
  constructor
  · rcases G.is with h | ⟨s, h⟩ | ⟨m, h⟩
    · omega
    · have := G'.sle s; have := (load_more (n := n) sh s).1; omega
    · have := G'.mle m; have := (load_more (n := n) mo m).1; omega
  · rcases G'.is with h | ⟨s, h⟩ | ⟨m, h⟩
    · omega
    · have := G.sle s; have := (load_more (n := n) sh s).2; omega
    · have := G.mle m; have := (load_more (n := n) mo m).2; omega
theorem mx_more {a b : Nat} (A : Mx sh mo (List.range n) a) (B : Mx sh mo (List.range (n + 1)) b) : a ≤ b ∧ b ≤ a + 1 := by
  obtain ⟨L, l1, l2, l3⟩ := A.some_
  obtain ⟨K, k1, k2, k3⟩ := B.some_
  refine ⟨?_, ?_⟩
  · have := B.most L l1 fun i hi => by have := List.mem_range.1 (l2 i hi); exact List.mem_range.2 (by omega)
    omega
  · have := A.most (K.erase n) (free_erase k1 n) fun i hi => by
      have h1 := List.mem_range.1 (k2 i (List.mem_of_mem_erase hi))
      have h2 : i ≠ n := fun e => by
        subst e
        exact (List.Nodup.not_mem_erase (free_nodup k1)) hi
      exact List.mem_range.2 (by omega)
    have h3 : K.length ≤ (K.erase n).length + 1 := by
      by_cases h : n ∈ K
      · rw [List.length_erase_of_mem h]; omega
      · rw [List.erase_of_not_mem h]; omega
    omega
theorem cnt_add (P : Nat → Bool) (a : Nat) : ∀ b, cnt P (a + b) = cnt P a + cnt (fun i => P (a + i)) b
  | 0 => rfl
  | b + 1 => by
    rw [← Nat.add_assoc, cnt_succ, cnt_add P a b, cnt_succ]
    omega
theorem cnt_none {P : Nat → Bool} {n : Nat} (h : ∀ i, i < n → P i = false) : cnt P n = 0 := by
  rw [cnt_congr (Q := fun _ => false) h]
  induction n with
  | zero => rfl
  | succ n ih => rw [cnt_succ, ih fun i hi => h i (by omega)]; rfl
/-- Two books apart. -/
def two (f g : Nat → Nat) (a s : Nat) : Nat → Nat := fun i => if i < a then f i else g (i - a) + s
theorem load_two {f g : Nat → Nat} {a b s x : Nat} (hf : ∀ i, i < a → f i < s) : load (two f g a s) (a + b) x = if x < s then load f a x else load g b (x - s) := by
  unfold load
  rw [cnt_add]
  have e1 : cnt (fun i => two f g a s i == x) a = cnt (fun i => f i == x) a := cnt_congr fun i hi => by unfold two; rw [if_pos hi]
  have e2 : cnt (fun i => two f g a s (a + i) == x) b = cnt (fun i => g i + s == x) b := cnt_congr fun i hi => by unfold two; rw [if_neg (by omega), Nat.add_sub_cancel_left]
  rw [e1, e2]
  split
  · rw [cnt_none (P := fun i => g i + s == x) fun i _ => by rw [beq_eq_false_iff_ne]; omega]
    rfl
  · rw [cnt_none (P := fun i => f i == x) fun i hi => by rw [beq_eq_false_iff_ne]; have := hf i hi; omega, Nat.zero_add]
    exact cnt_congr fun i _ => by rw [Bool.eq_iff_iff, beq_iff_eq, beq_iff_eq]; omega
theorem great_two {f1 f2 g1 g2 : Nat → Nat} {a b s m D1 D2 D : Nat} (hf : ∀ i, i < a → f1 i < s) (hg : ∀ i, i < a → g1 i < m) (G1 : Great f1 g1 a D1) (G2 : Great f2 g2 b D2) (G : Great (two f1 f2 a s) (two g1 g2 a m) (a + b) D) : D = max D1 D2 := by
  apply Nat.le_antisymm
  · rcases G.is with h | ⟨x, h⟩ | ⟨x, h⟩
    · omega
    · rw [load_two hf] at h
      split at h
      · have := G1.sle x; omega
      · have := G2.sle (x - s); omega
    · rw [load_two hg] at h
      split at h
      · have := G1.mle x; omega
      · have := G2.mle (x - m); omega
  · apply Nat.max_le.2
    constructor
    · rcases G1.is with h | ⟨x, h⟩ | ⟨x, h⟩
      · omega
      · by_cases hx : x < s
        · have := G.sle x; rw [load_two hf, if_pos hx] at this; omega
        · have : load f1 a x = 0 := cnt_none fun i hi => by rw [beq_eq_false_iff_ne]; have := hf i hi; omega
          omega
      · by_cases hx : x < m
        · have := G.mle x; rw [load_two hg, if_pos hx] at this; omega
        · have : load g1 a x = 0 := cnt_none fun i hi => by rw [beq_eq_false_iff_ne]; have := hg i hi; omega
          omega
    · rcases G2.is with h | ⟨x, h⟩ | ⟨x, h⟩
      · omega
      · have := G.sle (x + s); rw [load_two hf, if_neg (by omega), Nat.add_sub_cancel] at this; omega
      · have := G.mle (x + m); rw [load_two hg, if_neg (by omega), Nat.add_sub_cancel] at this; omega
theorem mx_two {f1 f2 g1 g2 : Nat → Nat} {a b s m x y z : Nat} (hf : ∀ i, i < a → f1 i < s) (hg : ∀ i, i < a → g1 i < m) (A : Mx f1 g1 (List.range a) x) (B : Mx f2 g2 (List.range b) y) (C : Mx (two f1 f2 a s) (two g1 g2 a m) (List.range (a + b)) z) : z = x + y := by
  have lo : ∀ {f g : Nat → Nat} {s i}, i < a → two f g a s i = f i := fun h => if_pos h
  have hi : ∀ {f g : Nat → Nat} {s i}, two f g a s (i + a) = g i + s := fun {f g s i} => by
    unfold two
    rw [if_neg (by omega), Nat.add_sub_cancel]
  apply Nat.le_antisymm
  · obtain ⟨L, l1, l2, l3⟩ := C.some_
    have h1 := A.most (L.filter fun i => decide (i < a)) (by
      refine (List.Pairwise.filter _ l1).imp_of_mem fun {i k} h1 h2 h3 => ?_
      have h1 := of_decide_eq_true (List.mem_filter.1 h1).2
      have h2 := of_decide_eq_true (List.mem_filter.1 h2).2
      rw [lo h1, lo h2, lo h1, lo h2] at h3
      exact h3) fun i h1 => List.mem_range.2 (of_decide_eq_true (List.mem_filter.1 h1).2)
    have h2 := B.most ((L.filter fun i => !decide (i < a)).map fun i => i - a) (by
      unfold free
      rw [List.pairwise_map]
      refine (List.Pairwise.filter _ l1).imp_of_mem fun {i k} h1 h2 h3 => ?_
      have h1 := (List.mem_filter.1 h1).2
      have h2 := (List.mem_filter.1 h2).2
      simp only [Bool.not_eq_true', decide_eq_false_iff_not, Nat.not_lt] at h1 h2
      rw [show i = (i - a) + a by omega, show k = (k - a) + a by omega, hi, hi, hi, hi] at h3
      exact ⟨fun e => h3.1 (by rw [e]), fun e => h3.2 (by rw [e])⟩) fun i h1 => by
      obtain ⟨k, hk, rfl⟩ := List.mem_map.1 h1
      obtain ⟨k1, k2⟩ := List.mem_filter.1 hk
      have := List.mem_range.1 (l2 k k1)
      simp only [Bool.not_eq_true', decide_eq_false_iff_not, Nat.not_lt] at k2
      exact List.mem_range.2 (by omega)
    rw [List.length_map] at h2
    have h3 : ∀ L : List Nat, (L.filter fun i => decide (i < a)).length + (L.filter fun i => !decide (i < a)).length = L.length := fun L => by
      induction L with
      | nil => rfl
      | cons q L ih =>
        by_cases hq : q < a
        · rw [List.filter_cons_of_pos (by simpa using hq), List.filter_cons_of_neg (by simpa using hq), List.length_cons, List.length_cons]; omega
        · rw [List.filter_cons_of_neg (by simpa using hq), List.filter_cons_of_pos (by simpa using hq), List.length_cons, List.length_cons]; omega
    have := h3 L
    omega
  · obtain ⟨L, l1, l2, l3⟩ := A.some_
    obtain ⟨K, k1, k2, k3⟩ := B.some_
    have h1 := C.most (L ++ K.map fun i => i + a) (by
      refine List.pairwise_append.2 ⟨l1.imp_of_mem fun {i k} h1 h2 h3 => ?_, ?_, fun i h1 k h2 => ?_⟩
      · have h1 := List.mem_range.1 (l2 i h1)
        have h2 := List.mem_range.1 (l2 k h2)
        rw [lo h1, lo h2, lo h1, lo h2]
        exact h3
      · rw [List.pairwise_map]
        refine k1.imp fun {i k} h3 => ?_
        rw [hi, hi, hi, hi]
        exact ⟨fun e => h3.1 (by omega), fun e => h3.2 (by omega)⟩
      · have h1 := List.mem_range.1 (l2 i h1)
        obtain ⟨q, hq, rfl⟩ := List.mem_map.1 h2
        rw [lo h1, lo h1, hi, hi]
        have := hf i h1
        have := hg i h1
        exact ⟨by omega, by omega⟩) fun i h1 => by
      rcases List.mem_append.1 h1 with h2 | h2
      · have := List.mem_range.1 (l2 i h2); exact List.mem_range.2 (by omega)
      · obtain ⟨q, hq, rfl⟩ := List.mem_map.1 h2
        have := List.mem_range.1 (k2 q hq); exact List.mem_range.2 (by omega)
    rw [List.length_append, List.length_map] at h1
    omega
/-- How many wants a day has. -/
def many (c : Nat → Nat) (n d : Nat) : Nat := cnt (fun i => c i == d) n
theorem day_free (R : right sh mo c n) (d : Nat) : free sh mo ((List.range n).filter fun i => c i == d) := by
  refine (List.Pairwise.filter _ List.nodup_range).imp_of_mem fun {i k} hi hk hne => ?_
  obtain ⟨i1, i2⟩ := List.mem_filter.1 hi
  obtain ⟨k1, k2⟩ := List.mem_filter.1 hk
  simp only [beq_iff_eq] at i2 k2
  exact R i k (List.mem_range.1 i1) (List.mem_range.1 k1) hne (i2.trans k2.symm)
/-- If each shop has as many wants as there are days, each day has a want of each shop. -/
theorem many_even {S d : Nat} (R : right sh mo c n) (hlt : ∀ i, i < n → c i < D) (hsh : ∀ i, i < n → sh i < S) (he : ∀ s, s < S → load sh n s = D) (hd : d < D) : many c n d = S := by
  apply Nat.le_antisymm
  · have h1 := nodup_le (l := ((List.range n).filter fun i => c i == d).map sh) (m := List.range S) (nodup_map (free_nodup (day_free R d)) fun i k hi hk hne => (free_ne (day_free R d) hi hk hne).1) (fun x hx => by
      obtain ⟨i, hi, rfl⟩ := List.mem_map.1 hx
      exact List.mem_range.2 (hsh i (List.mem_range.1 (List.mem_filter.1 hi).1)))
    rw [List.length_map, List.length_range] at h1
    exact h1
  · have h1 : ∀ s, ∃ i, s < S → i < n ∧ sh i = s ∧ c i = d := fun s => by
      by_cases hs : s < S
      · apply Classical.byContradiction
        intro hno
        have h2 := nodup_le (l := ((List.range n).filter fun i => sh i == s).map c) (m := (List.range D).erase d) (nodup_map (List.Pairwise.filter _ List.nodup_range) fun i k hi hk hne e => by
          obtain ⟨i1, i2⟩ := List.mem_filter.1 hi
          obtain ⟨k1, k2⟩ := List.mem_filter.1 hk
          simp only [beq_iff_eq] at i2 k2
          exact (R i k (List.mem_range.1 i1) (List.mem_range.1 k1) hne e).1 (i2.trans k2.symm)) (fun x hx => by
          obtain ⟨i, hi, rfl⟩ := List.mem_map.1 hx
          obtain ⟨i1, i2⟩ := List.mem_filter.1 hi
          simp only [beq_iff_eq] at i2
          refine (List.mem_erase_of_ne fun e => hno ⟨i, fun _ => ⟨List.mem_range.1 i1, i2, e⟩⟩).2 (List.mem_range.2 (hlt i (List.mem_range.1 i1))))
        rw [List.length_map, List.length_erase_of_mem (List.mem_range.2 hd), List.length_range] at h2
        have h3 := he s hs
        unfold load cnt at h3
        omega
      · exact ⟨0, fun h => absurd h hs⟩
    obtain ⟨g, hg⟩ := Classical.axiomOfChoice h1
    have h2 := nodup_le (l := (List.range S).map g) (m := (List.range n).filter fun i => c i == d) (nodup_map List.nodup_range fun i k hi hk hne e => by
      obtain ⟨_, a, _⟩ := hg i (List.mem_range.1 hi)
      obtain ⟨_, b, _⟩ := hg k (List.mem_range.1 hk)
      exact hne (a.symm.trans ((congrArg sh e).trans b))) (fun x hx => by
      obtain ⟨s, hs, rfl⟩ := List.mem_map.1 hx
      obtain ⟨a, _, b⟩ := hg s (List.mem_range.1 hs)
      exact List.mem_filter.2 ⟨List.mem_range.2 a, by simpa using b⟩)
    rw [List.length_map, List.length_range] at h2
    exact h2
/-- Some day has as many wants as all, divided by the days. -/
theorem many_sum {N : Nat} : ∀ (D n : Nat) (c : Nat → Nat), (∀ i, i < n → c i < D) → (∀ d, many c n d ≤ N) → n ≤ N * D := fun D => by
  intro n c hlt hN
  have key : ∀ D, cnt (fun i => decide (c i < D)) n ≤ N * D := fun D => by
    induction D with
    | zero => rw [cnt_none fun i _ => by simp]; omega
    | succ D ih =>
      have h1 : cnt (fun i => decide (c i < D + 1)) n = cnt (fun i => decide (c i < D)) n + many c n D := by
        unfold many
        clear ih hN hlt
        induction n with
        | zero => rfl
        | succ n ih =>
          rw [cnt_succ, cnt_succ, cnt_succ, ih]
          by_cases h : c n < D
          · rw [if_pos (by simp; omega), if_pos (by simpa using h), if_neg (by simp; omega)]; omega
          · by_cases h2 : c n = D
            · rw [if_pos (by simp; omega), if_neg (by simpa using h), if_pos (by simpa using h2)]; omega
            · rw [if_neg (by simp; omega), if_neg (by simpa using h), if_neg (by simpa using h2)]; omega
      have h2 := hN D
      rw [h1, Nat.mul_succ]
      omega
  have h3 : cnt (fun i => decide (c i < D)) n = n := by
    have : ∀ m, m ≤ n → cnt (fun i => decide (c i < D)) m = m := fun m => by
      induction m with
      | zero => intro _; rfl
      | succ m ih => intro h; rw [cnt_succ, ih (by omega), if_pos (by simpa using hlt m (by omega))]
    exact this n (Nat.le_refl _)
  have := key D
  omega
end MB
end Go.Proofs.Ytmgkeeefbfefgaa
