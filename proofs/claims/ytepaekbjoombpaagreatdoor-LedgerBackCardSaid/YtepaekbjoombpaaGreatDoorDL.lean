/- Books with one more entry: the plain law. -/
import Derived.Test.YtepaekbjoombpaaGreatDoorC2
namespace Go.Proofs.YtepaekbjoombpaaGreatDoor
open Go Go.Proofs Go.Eng Tab
set_option linter.unusedSimpArgs false
set_option linter.unusedVariables false
theorem ins_nil (e : En) : ins [] e = [e] := by simp [ins, insK]
theorem ins_cons (x e : En) (xs : List En) : ins (x :: xs) e = if e.d < x.d then e :: x :: xs else x :: ins xs e := by
  unfold ins insK
  by_cases h : e.d < x.d <;> simp [List.findIdx_cons, h]
theorem ins_comm {e f : En} (h : e.d ≠ f.d) : ∀ es, ins (ins es e) f = ins (ins es f) e
  | [] => by
    rw [ins_nil, ins_nil, ins_cons, ins_cons, ins_nil, ins_nil]
    by_cases h1 : f.d < e.d
    · rw [if_pos h1, if_neg (by omega)]
    · rw [if_neg h1, if_pos (by omega)]
  | x :: xs => by
    have ih := ins_comm h xs
    by_cases h1 : e.d < x.d <;> by_cases h2 : f.d < x.d
    · by_cases h3 : f.d < e.d
      · have h4 : ¬ e.d < f.d := by omega
        simp [ins_cons, h1, h2, h3, h4]
      · have h4 : e.d < f.d := by omega
        simp [ins_cons, h1, h2, h3, h4]
    · have h3 : ¬ f.d < e.d := by omega
      simp [ins_cons, h1, h2, h3]
    · have h3 : ¬ e.d < f.d := by omega
      simp [ins_cons, h1, h2, h3]
    · simp [ins_cons, h1, h2, ih]
theorem ins_mem {e x : En} : ∀ {es : List En}, x ∈ ins es e ↔ x = e ∨ x ∈ es
  | [] => by simp [ins_nil]
  | y :: ys => by
    rw [ins_cons]
    split
    · simp
    · rw [List.mem_cons, ins_mem (es := ys), List.mem_cons]
      constructor
      · rintro (h | h | h) <;> simp [h]
      · rintro (h | h | h) <;> simp [h]
theorem balA_ins (es : List En) (e : En) (day i : Int) : balA (ins es e) day i = balA es day i + amt day i e := by
  have h : balA es day i = balA (es.take (insK es e)) day i + balA (es.drop (insK es e)) day i := by rw [← balA_append, List.take_append_drop]
  rw [ins, balA_append, balA_cons, h]; omega
theorem sorted_pw {es : List En} : sortedE es ↔ es.Pairwise fun a b => a.d ≤ b.d := by
  rw [List.pairwise_iff_getElem]
  constructor
  · intro H i j hi hj hij
    induction j with
    | zero => omega
    | succ j ih =>
      have h1 := H j hj
      by_cases h2 : i = j
      · subst h2; exact h1
      · have := ih (by omega) (by omega); omega
  · intro H i hi
    exact H i (i + 1) (by omega) hi (by omega)
theorem pw_ins {e : En} : ∀ {es : List En}, (es.Pairwise fun a b => a.d ≤ b.d) → (ins es e).Pairwise fun a b => a.d ≤ b.d
  | [], _ => by rw [ins_nil]; simp
  | x :: xs, H => by
    rw [List.pairwise_cons] at H
    rw [ins_cons]
    split
    · rename_i h
      refine List.pairwise_cons.2 ⟨fun y hy => ?_, List.pairwise_cons.2 H⟩
      rw [List.mem_cons] at hy
      rcases hy with rfl | hy
      · omega
      · have := H.1 y hy; omega
    · rename_i h
      refine List.pairwise_cons.2 ⟨fun y hy => ?_, pw_ins H.2⟩
      rw [ins_mem] at hy
      rcases hy with rfl | hy
      · omega
      · exact H.1 y hy
theorem chk_iff {acc cl : Int} {es : List En} : chk acc cl es = 0 ↔ (2 ≤ acc ∧ acc ≤ 8) ∧ es.length ≤ 20 ∧ (0 ≤ cl ∧ cl ≤ 30) ∧ (∀ e ∈ es, okE acc e) ∧ (es.Pairwise fun a b => a.d ≤ b.d) ∧ ∀ e ∈ es, e.f ≠ e.t := by
  rw [← sorted_pw]
  constructor
  · exact chk_ok
  · rintro ⟨h1, h2, h3, h4, h5, h6⟩
    unfold chk
    rw [if_neg, if_neg, if_neg]
    · rintro (h | ⟨e, he, h⟩)
      · exact h h5
      · exact h6 e he h
    · rintro (h | h)
      · exact h h3
      · exact h h4
    · rintro (h | h)
      · exact h h1
      · omega
theorem pst_iff {acc cl : Int} {es : List En} {e : En} : pst acc cl es e = 0 ↔ chk acc cl es = 0 ∧ okE acc e ∧ e.f ≠ e.t ∧ cl < e.d ∧ es.length ≠ 20 := by
  unfold pst
  split
  · rename_i h; exact ⟨fun hh => absurd hh h, fun hh => absurd hh.1 h⟩
  rename_i h0
  split
  · rename_i h; exact ⟨fun hh => (by omega), fun hh => absurd hh.2.1 h⟩
  rename_i h1
  split
  · rename_i h; exact ⟨fun hh => (by omega), fun hh => absurd h hh.2.2.1⟩
  rename_i h2
  split
  · rename_i h; exact ⟨fun hh => (by omega), fun hh => (by have := hh.2.2.2.1; omega)⟩
  rename_i h3
  split
  · rename_i h; exact ⟨fun hh => (by omega), fun hh => absurd h hh.2.2.2.2⟩
  rename_i h4
  exact ⟨fun _ => ⟨Classical.not_not.1 h0, Classical.not_not.1 h1, h2, by omega, h4⟩, fun _ => rfl⟩
theorem chk_ins {acc cl : Int} {es : List En} {e : En} (H : pst acc cl es e = 0) : chk acc cl (ins es e) = 0 := by
  obtain ⟨hc, ho, hft, hd, hl⟩ := pst_iff.1 H
  obtain ⟨h1, h2, h3, h4, h5, h6⟩ := chk_iff.1 hc
  refine chk_iff.2 ⟨h1, by rw [ins_length]; omega, h3, fun x hx => ?_, pw_ins h5, fun x hx => ?_⟩
  · rcases ins_mem.1 hx with rfl | hx
    · exact ho
    · exact h4 x hx
  · rcases ins_mem.1 hx with rfl | hx
    · exact hft
    · exact h6 x hx
theorem opn_of {acc cl : Int} {es : List En} {day : Int} (hc : chk acc cl es = 0) (hd : 0 ≤ day ∧ day ≤ 30) : opn acc cl es [day] = 0 := by
  rw [opn, if_neg (by simpa using hc), if_pos (by rw [inB_one]; simpa using hd)]
theorem sum_map_add (f g : Nat → Int) : ∀ l : List Nat, (l.map fun i => f i + g i).sum = (l.map f).sum + (l.map g).sum
  | [] => by simp
  | x :: xs => by simp only [List.map_cons, List.sum_cons, sum_map_add f g xs]; omega
theorem sum_map_sub (f g : Nat → Int) : ∀ l : List Nat, (l.map fun i => f i - g i).sum = (l.map f).sum - (l.map g).sum
  | [] => by simp
  | x :: xs => by simp only [List.map_cons, List.sum_cons, sum_map_sub f g xs]; omega
theorem sum_zero : ∀ l : List Nat, (l.map fun _ => (0 : Int)).sum = 0
  | [] => rfl
  | x :: xs => by simp only [List.map_cons, List.sum_cons, sum_zero xs]; omega
theorem sum_one {k : Int} (hk : 0 ≤ k) (m : Int) : ∀ n : Nat, ((List.range n).map fun i : Nat => if k = i then m else 0).sum = if k < n then m else 0
  | 0 => by rw [if_neg (by omega)]; rfl
  | n + 1 => by
    rw [List.range_succ, List.map_append, List.sum_append, sum_one hk m n]
    simp only [List.map_cons, List.map_nil, List.sum_cons, List.sum_nil]
    by_cases h1 : k < n
    · rw [if_pos h1, if_neg (by omega), if_pos (by omega)]; omega
    · by_cases h2 : k = n
      · rw [if_neg h1, if_pos h2, if_pos (by omega)]; omega
      · rw [if_neg h1, if_neg h2, if_neg (by omega)]; omega
theorem sum_amt {n : Nat} {e : En} (day : Int) (ho : okE n e) : ((List.range n).map fun i : Nat => amt day i e).sum = 0 := by
  obtain ⟨_, hf, ht, _⟩ := ho
  unfold amt
  by_cases hd : e.d ≤ day
  · simp only [if_pos hd]
    rw [sum_map_sub, sum_one ht.1, sum_one hf.1, if_pos ht.2, if_pos hf.2]; omega
  · simp only [if_neg hd]
    exact sum_zero _
theorem bals_sum {n : Nat} (day : Int) : ∀ {es : List En}, (∀ e ∈ es, okE n e) → (bals n es day).sum = 0
  | [], _ => by unfold bals; exact sum_zero _
  | e :: es, H => by
    unfold bals
    simp only [balA_cons]
    rw [sum_map_add, sum_amt day (H e (List.mem_cons_self ..))]
    have := bals_sum (n := n) day (es := es) fun x hx => H x (List.mem_cons_of_mem _ hx)
    unfold bals at this
    omega
end Go.Proofs.YtepaekbjoombpaaGreatDoor
