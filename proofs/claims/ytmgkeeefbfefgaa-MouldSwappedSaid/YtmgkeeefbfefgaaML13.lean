/- How many different numbers: sorted and made compact; days that are given by numbers. The plain law. No condition. -/
import Derived.Lib.SlicesCompact
import Derived.Test.YtmgkeeefbfefgaaML9
namespace Go.Proofs.Ytmgkeeefbfefgaa
set_option linter.unusedSimpArgs false
set_option linter.unusedVariables false
set_option linter.defProp false
set_option linter.unusedSectionVars false
namespace MB
open Go.Lib in
theorem compact_inc (d : Array Int) (hs : ∀ a b, a ≤ b → b < d.size → d[a]! ≤ d[b]!) : ∀ m, m ≤ d.size → (compactUpTo d m).Pairwise (· < ·) ∧ ∀ x, x ∈ compactUpTo d m ↔ ∃ j, j < m ∧ d[j]! = x
  | 0, _ => ⟨List.Pairwise.nil, fun x => ⟨fun h => absurd h List.not_mem_nil, fun ⟨j, h, _⟩ => by omega⟩⟩
  | m + 1, h => by
    obtain ⟨h1, h2⟩ := compact_inc d hs m (by omega)
    rw [compactUpTo_succ]
    by_cases hk : keeps d m = true
    · rw [if_pos hk]
      refine ⟨List.pairwise_append.2 ⟨h1, by simp, fun a ha b hb => ?_⟩, fun x => ?_⟩
      · obtain ⟨j, hj, rfl⟩ := (h2 a).1 ha
        rw [List.mem_singleton.1 hb]
        have hm : m ≠ 0 := by omega
        have hne : d[m]! ≠ d[m - 1]! := by
          have := of_decide_eq_true hk
          exact this.resolve_left hm
        have e1 := hs j (m - 1) (by omega) (by omega)
        have e2 := hs (m - 1) m (by omega) (by omega)
        omega
      · rw [List.mem_append, h2, List.mem_singleton]
        constructor
        · rintro (⟨j, hj, e⟩ | e)
          · exact ⟨j, by omega, e⟩
          · exact ⟨m, by omega, e.symm⟩
        · rintro ⟨j, hj, e⟩
          by_cases hjm : j = m
          · subst hjm; exact .inr e.symm
          · exact .inl ⟨j, by omega, e⟩
    · rw [if_neg hk, List.append_nil]
      refine ⟨h1, fun x => ?_⟩
      rw [h2]
      constructor
      · rintro ⟨j, hj, e⟩; exact ⟨j, by omega, e⟩
      · rintro ⟨j, hj, e⟩
        by_cases hjm : j = m
        · subst hjm
          have hk2 : ¬ (j = 0 ∨ d[j]! ≠ d[j - 1]!) := fun h => hk (decide_eq_true h)
          have h3 : j ≠ 0 := fun e => hk2 (.inl e)
          have h4 : d[j]! = d[j - 1]! := Classical.not_not.1 fun e => hk2 (.inr e)
          exact ⟨j - 1, by omega, h4.symm.trans e⟩
        · exact ⟨j, by omega, e⟩
/-- Sorted days, made compact, are as many as there are different ones. -/
theorem compact_dif {days : List Nat} {zs : List Int} (hp : zs.Perm (days.map fun x : Nat => (x : Int))) (hs : zs.Pairwise (· ≤ ·)) : (Lib.compact zs).length = dif days := by
  obtain ⟨u, h1, h2, h3⟩ := dif_ex days
  have hsz : zs.toArray.size = zs.length := by simp
  have hget : ∀ j, j < zs.length → ∃ h : j < zs.length, zs.toArray[j]! = zs[j] := fun j hj => ⟨hj, by simp [hj]⟩
  obtain ⟨c1, c2⟩ := compact_inc zs.toArray (fun a b hab hb => by
    rw [hsz] at hb
    obtain ⟨b1, b2⟩ := hget b hb
    obtain ⟨a1, a2⟩ := hget a (by omega)
    rw [a2, b2]
    by_cases e : a = b
    · subst e; omega
    · exact List.pairwise_iff_getElem.1 hs a b a1 b1 (by omega)) zs.length (by rw [hsz]; exact Nat.le_refl _)
  have c2 : ∀ x, x ∈ Lib.compact zs ↔ x ∈ zs := fun x => by
    show x ∈ Lib.compactUpTo zs.toArray zs.length ↔ _
    rw [c2]
    constructor
    · rintro ⟨j, hj, e⟩
      obtain ⟨h, e2⟩ := hget j hj
      rw [← e, e2]
      exact List.getElem_mem h
    · intro hx
      obtain ⟨j, hj, e⟩ := List.getElem_of_mem hx
      obtain ⟨h, e2⟩ := hget j hj
      exact ⟨j, hj, e2.trans e⟩
  have hmem : ∀ x, x ∈ Lib.compact zs ↔ ∃ y, y ∈ days ∧ (y : Int) = x := fun x => by
    rw [c2, hp.mem_iff, List.mem_map]
  have hn : ((Lib.compact zs).map Int.toNat).Nodup := by
    rw [List.Nodup, List.pairwise_map]
    have c1 : (Lib.compact zs).Pairwise (· < ·) := c1
    refine c1.imp_of_mem fun {a b} ha hb hlt e => ?_
    obtain ⟨x, _, rfl⟩ := (hmem a).1 ha
    obtain ⟨y, _, rfl⟩ := (hmem b).1 hb
    omega
  have := same_length hn h1 fun x => by
    rw [h2, List.mem_map]
    constructor
    · rintro ⟨a, ha, rfl⟩
      obtain ⟨y, hy, rfl⟩ := (hmem a).1 ha
      exact hy
    · intro hx
      exact ⟨x, (hmem x).2 ⟨x, hx, rfl⟩, rfl⟩
  rw [List.length_map] at this
  omega
/-- A day is found before all 14 have been tried, by at most 13 wants. -/
theorem given_bound {c : Nat → Nat} {a i j : Nat} (hj : j ≤ 14) (h : ∀ x, x < j → ∃ k, k < i ∧ c k = (a + x) % 14) : j ≤ i := by
  have := nodup_le (l := (List.range j).map fun x => (a + x) % 14) (m := (List.range i).map c) (nodup_map List.nodup_range fun x y hx hy hne e => by
    have := List.mem_range.1 hx
    have := List.mem_range.1 hy
    omega) (fun z hz => by
    obtain ⟨x, hx, rfl⟩ := List.mem_map.1 hz
    obtain ⟨k, hk, e⟩ := h x (List.mem_range.1 hx)
    exact List.mem_map.2 ⟨k, List.mem_range.2 hk, e⟩)
  simpa using this
end MB
end Go.Proofs.Ytmgkeeefbfefgaa
