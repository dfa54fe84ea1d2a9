/- Shops that are short: the plain law. No condition. -/
import Derived.Test.YtmgkeeefbfefgaaML4
namespace Go.Proofs.Ytmgkeeefbfefgaa
set_option linter.unusedSimpArgs false
set_option linter.unusedVariables false
set_option linter.defProp false
set_option linter.unusedSectionVars false
namespace MB
/-- The load of a shop, or of a mould. -/
def load (f : Nat → Nat) (n s : Nat) : Nat := cnt (fun i => f i == s) n
/-- The shops that have wants. -/
def wnt (sh : Nat → Nat) (n S : Nat) : List Nat := (List.range S).filter fun s => decide (0 < load sh n s)
variable {sh mo : Nat → Nat} {n M S : Nat} {t : St} {X Y : List Nat}
theorem load_pos {f : Nat → Nat} {i : Nat} (hi : i < n) : 0 < load f n (f i) := by
  induction n with
  | zero => omega
  | succ n ih =>
    unfold load
    rw [cnt_succ]
    by_cases e : i = n
    · subst e; simp
    · have := ih (by omega)
      unfold load at this
      omega
theorem pos_load {f : Nat → Nat} {s : Nat} (h : 0 < load f n s) : ∃ i, i < n ∧ f i = s := by
  obtain ⟨i, hi, h1⟩ := cnt_pos (P := fun i => f i == s) (n := n) h
  exact ⟨i, hi, by simpa using h1⟩
theorem mem_wnt {s : Nat} : s ∈ wnt sh n S ↔ s < S ∧ 0 < load sh n s := by
  rw [wnt, List.mem_filter, List.mem_range, decide_eq_true_eq]
theorem wnt_nodup : (wnt sh n S).Nodup := List.Pairwise.filter _ List.nodup_range
theorem served_load (I : Inv mo (List.range n) t) {s : Nat} (h : served sh M t s ≠ 0) : 0 < load sh n s := by
  obtain ⟨m, _, h1⟩ := cnt_pos (P := isOf sh t s) (n := M) (Nat.one_le_iff_ne_zero.2 h)
  obtain ⟨i, h2, rfl⟩ := isOf_iff.1 h1
  exact load_pos (List.mem_range.1 (I.ok m i h2).1)
/-- Same members: same length. -/
theorem same_length {l k : List Nat} (hl : l.Nodup) (hk : k.Nodup) (h : ∀ x, x ∈ l ↔ x ∈ k) : l.length = k.length := Nat.le_antisymm (nodup_le hl fun x hx => (h x).1 hx) (nodup_le hk fun x hx => (h x).2 hx)
def outs (S : Nat) (X : List Nat) : List Nat := (List.range S).filter fun s => !X.contains s
theorem mem_outs {s : Nat} : s ∈ outs S X ↔ s < S ∧ s ∉ X := by
  rw [outs, List.mem_filter, List.mem_range]
  simp
theorem outs_nodup : (outs S X).Nodup := List.Pairwise.filter _ List.nodup_range
/-- Shops that are reached and have wants, and those that are not reached. -/
theorem Alt.wants (A : Alt sh mo n M S t X Y) (I : MInv sh mo (List.range n) M S t) : (X.filter fun s => decide (0 < load sh n s)).length + (outs S X).length = (wnt sh n S).length := by
  rw [← List.length_append]
  refine same_length (List.nodup_append.2 ⟨List.Pairwise.filter _ A.xn, outs_nodup, fun a ha b hb e => (mem_outs.1 hb).2 (e ▸ (List.mem_filter.1 ha).1)⟩) wnt_nodup fun s => ?_
  rw [List.mem_append, List.mem_filter, mem_outs, mem_wnt, decide_eq_true_eq]
  constructor
  · rintro (⟨h1, h2⟩ | ⟨h1, h2⟩)
    · exact ⟨((A.xs s).1 h1).1, h2⟩
    · exact ⟨h1, served_load I.inv fun e => h2 ((A.xs s).2 ⟨h1, .base s e⟩)⟩
  · rintro ⟨h1, h2⟩
    by_cases h : s ∈ X
    · exact .inl ⟨h, h2⟩
    · exact .inr ⟨h1, h⟩
/-- The shops that are returned are as many too many as are not served. -/
theorem Alt.short (A : Alt sh mo n M S t X Y) (I : MInv sh mo (List.range n) M S t) (hsh : ∀ i, i < n → sh i < S) (hmo : ∀ i, i < n → mo i < M) : (X.filter fun s => decide (0 < load sh n s)).length + MB.size M t = (wnt sh n S).length + Y.length := by
  have h1 := A.wants I
  have h2 := A.size I hsh hmo
  have h3 : (outs S X).length + Y.length = MB.size M t := h2
  omega
/-- The moulds that one of some shops wants. -/
def wtd (sh mo : Nat → Nat) (n M : Nat) (own : List Nat) : List Nat := (List.range M).filter fun m => (List.range n).any fun i => mo i == m && own.contains (sh i)
theorem mem_wtd {own : List Nat} {m : Nat} : m ∈ wtd sh mo n M own ↔ m < M ∧ ∃ i, i < n ∧ mo i = m ∧ sh i ∈ own := by
  rw [wtd, List.mem_filter, List.mem_range, List.any_eq_true]
  simp only [List.mem_range, Bool.and_eq_true, beq_iff_eq, List.contains_eq_mem, decide_eq_true_eq]
theorem wtd_nodup {own : List Nat} : (wtd sh mo n M own).Nodup := List.Pairwise.filter _ List.nodup_range
theorem Alt.wtd (A : Alt sh mo n M S t X Y) (hsh : ∀ i, i < n → sh i < S) (hmo : ∀ i, i < n → mo i < M) : (MB.wtd sh mo n M (X.filter fun s => decide (0 < load sh n s))).length = Y.length := by
  refine same_length wtd_nodup A.yn fun m => ?_
  rw [mem_wtd, A.ys]
  constructor
  · rintro ⟨_, i, h1, h2, h3⟩
    exact ⟨i, h1, ((A.xs _).1 (List.mem_filter.1 h3).1).2, h2⟩
  · rintro ⟨i, h1, h2, rfl⟩
    exact ⟨hmo i h1, i, h1, rfl, List.mem_filter.2 ⟨(A.xs _).2 ⟨hsh i h1, h2⟩, by rw [decide_eq_true_eq]; exact load_pos h1⟩⟩
/-- Shops of a day's list, and shops that are short. -/
theorem hall {L own : List Nat} (hL : free sh mo L) (hn : ∀ i, i ∈ L → i < n) (hsh : ∀ i, i < n → sh i < S) (hmo : ∀ i, i < n → mo i < M) (ho : own.Nodup) (hw : ∀ s, s ∈ own → s < S ∧ 0 < load sh n s) : L.length + own.length ≤ (wnt sh n S).length + (MB.wtd sh mo n M own).length := by
  have h1 := cover_bound (X := (wnt sh n S).filter fun s => !own.contains s) (Y := MB.wtd sh mo n M own) hL fun i hi => by
    by_cases h : sh i ∈ own
    · exact .inr (mem_wtd.2 ⟨hmo i (hn i hi), i, hn i hi, rfl, h⟩)
    · exact .inl (List.mem_filter.2 ⟨mem_wnt.2 ⟨hsh i (hn i hi), load_pos (hn i hi)⟩, by simpa using h⟩)
  have h2 := nodup_le (l := (wnt sh n S).filter (fun s => !own.contains s) ++ own) (m := wnt sh n S) (List.nodup_append.2 ⟨List.Pairwise.filter _ wnt_nodup, ho, fun a ha b hb e => by
    have := (List.mem_filter.1 ha).2
    simp only [List.contains_eq_mem, Bool.not_eq_true', decide_eq_false_iff_not] at this
    exact this (e ▸ hb)⟩) (fun s hs => by
    rcases List.mem_append.1 hs with h | h
    · exact (List.mem_filter.1 h).1
    · exact mem_wnt.2 (hw s h))
  rw [List.length_append] at h2
  omega
/-- The wants by mould are no more than shops that have wants. -/
theorem size_wnt (I : MInv sh mo (List.range n) M S t) (hsh : ∀ i, i < n → sh i < S) : MB.size M t ≤ (wnt sh n S).length := by
  have h1 := cover_bound (X := wnt sh n S) (Y := []) (lst_free I M (Nat.le_refl _)) fun i hi => by
    obtain ⟨x, _, hx⟩ := lst_mem.1 hi
    have hn := List.mem_range.1 (I.inv.ok x i hx).1
    exact .inl (mem_wnt.2 ⟨hsh i hn, load_pos hn⟩)
  rw [lst_length] at h1
  exact h1
/-- If all shops that have wants are served, none is reached. -/
theorem Alt.none (A : Alt sh mo n M S t X Y) (I : MInv sh mo (List.range n) M S t) (hsh : ∀ i, i < n → sh i < S) (h : MB.size M t = (wnt sh n S).length) : X.filter (fun s => decide (0 < load sh n s)) = [] := by
  have key : ∀ s, s < S → 0 < load sh n s → served sh M t s ≠ 0 := fun s hs hl h0 => by
    have h1 := cover_bound (X := (wnt sh n S).erase s) (Y := []) (lst_free I M (Nat.le_refl _)) fun i hi => by
      obtain ⟨x, hx1, hx⟩ := lst_mem.1 hi
      have hn := List.mem_range.1 (I.inv.ok x i hx).1
      have hne : sh i ≠ s := fun e => by
        have := served_pos (sh := sh) hx1 hx
        rw [e] at this
        omega
      exact .inl ((List.mem_erase_of_ne hne).2 (mem_wnt.2 ⟨hsh i hn, load_pos hn⟩))
    have hm : s ∈ wnt sh n S := mem_wnt.2 ⟨hs, hl⟩
    rw [lst_length, List.length_erase_of_mem hm] at h1
    have := List.length_pos_of_mem hm
    simp only [List.length_nil] at h1
    omega
  have all : ∀ s, RS sh mo n M t s → s < S → served sh M t s = 0 := fun s hr => by
    induction hr with
    | base s h0 => exact fun _ => h0
    | step i w _ hi _ ih => exact fun _ => absurd (ih (hsh i hi)) (key _ (hsh i hi) (load_pos hi))
  rw [List.filter_eq_nil_iff]
  intro s hs hd
  obtain ⟨h1, h2⟩ := (A.xs s).1 hs
  exact key s h1 (by simpa using hd) (all s h2 h1)
end MB
end Go.Proofs.Ytmgkeeefbfefgaa
