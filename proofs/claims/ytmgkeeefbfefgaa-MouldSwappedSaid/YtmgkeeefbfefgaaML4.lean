/- Covers, and shops that are short: the plain law. No condition. -/
import Derived.Test.YtmgkeeefbfefgaaML3
namespace Go.Proofs.Ytmgkeeefbfefgaa
set_option linter.unusedSimpArgs false
set_option linter.unusedVariables false
set_option linter.defProp false
set_option linter.unusedSectionVars false
namespace MB
open Classical in
/-- A day's list has no more wants than a cover has numbers. -/
theorem cover_bound {sh mo : Nat → Nat} {L X Y : List Nat} (hL : free sh mo L) (h : ∀ i, i ∈ L → sh i ∈ X ∨ mo i ∈ Y) : L.length ≤ X.length + Y.length := by
  have key := nodup_le (l := L.map fun i => if sh i ∈ X then 2 * sh i else 2 * mo i + 1) (m := X.map (fun s => 2 * s) ++ Y.map (fun m => 2 * m + 1)) (nodup_map (free_nodup hL) fun i k hi hk hne he => by
    have hf := free_ne hL hi hk hne
    by_cases d1 : sh i ∈ X <;> by_cases d2 : sh k ∈ X
    · rw [if_pos d1, if_pos d2] at he; exact hf.1 (by omega)
    · rw [if_pos d1, if_neg d2] at he; omega
    · rw [if_neg d1, if_pos d2] at he; omega
    · rw [if_neg d1, if_neg d2] at he; exact hf.2 (by omega)) (fun x hx => by
    obtain ⟨i, hi, rfl⟩ := List.mem_map.1 hx
    by_cases d1 : sh i ∈ X
    · rw [if_pos d1]; exact List.mem_append_left _ (List.mem_map.2 ⟨_, d1, rfl⟩)
    · rw [if_neg d1]
      rcases h i hi with h1 | h1
      · exact absurd h1 d1
      · exact List.mem_append_right _ (List.mem_map.2 ⟨_, h1, rfl⟩))
  simpa using key
/-- The shops that are reached from those that are not served. -/
inductive RS (sh mo : Nat → Nat) (n M : Nat) (t : St) : Nat → Prop
  | base (s : Nat) : served sh M t s = 0 → RS sh mo n M t s
  | step (i w : Nat) : RS sh mo n M t (sh i) → i < n → t.by_ (mo i) = some w → RS sh mo n M t (sh w)
/-- Shops and moulds that are reached. -/
structure Alt (sh mo : Nat → Nat) (n M S : Nat) (t : St) (X Y : List Nat) : Prop where
  xn : X.Nodup
  yn : Y.Nodup
  xs : ∀ s, s ∈ X ↔ s < S ∧ RS sh mo n M t s
  ys : ∀ m, m ∈ Y ↔ ∃ i, i < n ∧ RS sh mo n M t (sh i) ∧ mo i = m
variable {sh mo : Nat → Nat} {n M S : Nat} {t : St} {X Y : List Nat}
theorem RS.dead {Ds Dm : Nat → Prop} (hc : Closed sh mo (List.range n) t Ds Dm) (hd : ∀ s, s < S → served sh M t s = 1 ∨ Ds s) (hsh : ∀ i, i < n → sh i < S) (I : Inv mo (List.range n) t) {s : Nat} (h : RS sh mo n M t s) (hs : s < S) : Ds s := by
  induction h with
  | base s h0 =>
    rcases hd s hs with h1 | h1
    · omega
    · exact h1
  | step i w _ hi hb ih =>
    obtain ⟨j, hj, h2⟩ := hc.m _ (hc.s i (List.mem_range.2 hi) (ih (hsh i hi)))
    rw [hb] at hj
    cases hj
    exact h2
/-- Moulds that are reached have a want. -/
theorem Alt.has (A : Alt sh mo n M S t X Y) (I : MInv sh mo (List.range n) M S t) (hsh : ∀ i, i < n → sh i < S) {m : Nat} (hm : m ∈ Y) : ∃ w, t.by_ m = some w ∧ w < n ∧ mo w = m ∧ sh w ∈ X := by
  obtain ⟨i, hi, h1, rfl⟩ := (A.ys m).1 hm
  obtain ⟨Ds, Dm, hc, hd⟩ := I.dead
  have h2 := h1.dead hc hd hsh I.inv (hsh i hi)
  obtain ⟨w, hw, _⟩ := hc.m _ (hc.s i (List.mem_range.2 hi) h2)
  obtain ⟨h3, h4⟩ := I.inv.ok _ _ hw
  have hwn := List.mem_range.1 h3
  exact ⟨w, hw, hwn, h4, (A.xs _).2 ⟨hsh w hwn, .step i w h1 hi hw⟩⟩
theorem served_pos {m w : Nat} (hm : m < M) (h : t.by_ m = some w) : 1 ≤ served sh M t (sh w) := by
  unfold served
  have h1 := cnt_set (P := isOf sh t (sh w)) (Q := fun x => if x = m then false else isOf sh t (sh w) x) hm (fun x hx => by rw [if_neg hx])
  simp only [if_true, Bool.false_eq_true, if_false, Nat.add_zero] at h1
  rw [if_pos (isOf_iff.2 ⟨w, h, rfl⟩)] at h1
  omega
/-- A shop that is served and reached has a mould that is reached. -/
theorem Alt.via (A : Alt sh mo n M S t X Y) {s : Nat} (hs : s ∈ X) (h1 : served sh M t s ≠ 0) : ∃ m w, m ∈ Y ∧ t.by_ m = some w ∧ sh w = s := by
  obtain ⟨_, h⟩ := (A.xs s).1 hs
  cases h with
  | base _ h0 => exact absurd h0 h1
  | step i w hr hi hb => exact ⟨mo i, w, (A.ys _).2 ⟨i, hi, hr, rfl⟩, hb, rfl⟩
theorem Alt.covers (A : Alt sh mo n M S t X Y) (hsh : ∀ i, i < n → sh i < S) {i : Nat} (hi : i < n) : sh i ∈ (List.range S).filter (fun s => !X.contains s) ∨ mo i ∈ Y := by
  by_cases h : sh i ∈ X
  · exact .inr ((A.ys _).2 ⟨i, hi, ((A.xs _).1 h).2, rfl⟩)
  · exact .inl (List.mem_filter.2 ⟨List.mem_range.2 (hsh i hi), by simpa using h⟩)
/-- The cover has as many numbers as a best list has wants. -/
theorem Alt.size (A : Alt sh mo n M S t X Y) (I : MInv sh mo (List.range n) M S t) (hsh : ∀ i, i < n → sh i < S) (hmo : ∀ i, i < n → mo i < M) : ((List.range S).filter (fun s => !X.contains s)).length + Y.length = MB.size M t := by
  apply Nat.le_antisymm
  · have h1 : ∀ s, ∃ m, s < S → s ∉ X → m < M ∧ isOf sh t s m = true := fun s => by
      by_cases h : s < S ∧ s ∉ X
      · have h2 : 1 ≤ served sh M t s := Nat.one_le_iff_ne_zero.2 fun e => h.2 ((A.xs s).2 ⟨h.1, .base s e⟩)
        obtain ⟨m, h3, h4⟩ := cnt_pos h2
        exact ⟨m, fun _ _ => ⟨h3, h4⟩⟩
      · exact ⟨0, fun h3 h4 => absurd ⟨h3, h4⟩ h⟩
    obtain ⟨g, hg⟩ := Classical.axiomOfChoice h1
    have hX : ∀ s, s ∈ (List.range S).filter (fun s => !X.contains s) → s < S ∧ s ∉ X := fun s hs => by
      obtain ⟨h2, h3⟩ := List.mem_filter.1 hs
      exact ⟨List.mem_range.1 h2, by simpa using h3⟩
    have hnd : (((List.range S).filter (fun s => !X.contains s)).map g ++ Y).Nodup := by
      refine List.nodup_append.2 ⟨nodup_map (List.Pairwise.filter _ List.nodup_range) fun i k hi hk hne he => ?_, A.yn, fun a ha b hb e => ?_⟩
      · obtain ⟨i1, i2⟩ := hX i hi
        obtain ⟨k1, k2⟩ := hX k hk
        obtain ⟨a, a1, a2⟩ := isOf_iff.1 (hg i i1 i2).2
        obtain ⟨b, b1, b2⟩ := isOf_iff.1 (hg k k1 k2).2
        rw [he, b1] at a1
        cases a1
        exact hne (a2.symm.trans b2)
      · obtain ⟨s, hs, rfl⟩ := List.mem_map.1 ha
        obtain ⟨s1, s2⟩ := hX s hs
        obtain ⟨a, a1, a2⟩ := isOf_iff.1 (hg s s1 s2).2
        obtain ⟨w, w1, _, _, w2⟩ := A.has I hsh hb
        rw [← e, a1] at w1
        cases w1
        exact s2 (a2 ▸ w2)
    have key := nodup_le (m := (List.range M).filter fun m => (t.by_ m).isSome) hnd (fun m hm => by
      rcases List.mem_append.1 hm with h | h
      · obtain ⟨s, hs, rfl⟩ := List.mem_map.1 h
        obtain ⟨s1, s2⟩ := hX s hs
        obtain ⟨h3, h4⟩ := hg s s1 s2
        obtain ⟨a, a1, _⟩ := isOf_iff.1 h4
        exact List.mem_filter.2 ⟨List.mem_range.2 h3, by rw [a1]; rfl⟩
      · obtain ⟨w, w1, w2, w3, _⟩ := A.has I hsh h
        exact List.mem_filter.2 ⟨List.mem_range.2 (w3 ▸ hmo w w2), by rw [w1]; rfl⟩)
    rw [List.length_append, List.length_map] at key
    exact key
  · have h1 := match_mx (sh := sh) (mo := mo) (sm := List.range n) (M := M) (S := S) (fun i hi => hmo i (List.mem_range.1 hi)) (fun i hi => hsh i (List.mem_range.1 hi))
    have h2 := cover_bound (X := (List.range S).filter (fun s => !X.contains s)) (Y := Y) (lst_free I M (Nat.le_refl _)) (fun i hi => A.covers hsh (by
      obtain ⟨x, _, hx⟩ := lst_mem.1 hi
      exact List.mem_range.1 (I.inv.ok x i hx).1))
    rw [lst_length] at h2
    exact h2
end MB
end Go.Proofs.Ytmgkeeefbfefgaa
