/- Walks: sorting, and leaving out what is twice: the kit's contracts. -/
import Derived.Test.YtmgkeeefbfefgaaM4
import Derived.Test.YtmgkeeefbfefgaaShelf
import Derived.Test.YtmgkeeefbfefgaaEngF
import Derived.Test.YtmgkeeefbfefgaaEngA
import Derived.Test.YtmgkeeefbfefgaaML13
namespace Go.Proofs.Ytmgkeeefbfefgaa
open Go Go.Proofs Go.Eng Go.Run Tab Go.Sort
set_option maxRecDepth 100000
set_option linter.unusedSimpArgs false
set_option linter.unusedVariables false
set_option linter.defProp false
set_option maxHeartbeats 1000000
theorem holds_ints {w : World} {g : Nat} {xs : List Int} {tl : List Value} (hb : w.heap[g]? = some (.cells (Eng.ints xs ++ tl).toArray 3 (0, 0))) : Holds (Value.int .i64) w g 0 xs.toArray := by
  intro j hj
  have hj : j < xs.length := by simpa using hj
  refine ⟨?_, ?_⟩
  · simp only [World.cell?, hb, Nat.zero_add]
    rw [List.getElem?_toArray, List.getElem?_append_left (by rw [Eng.ints_length]; exact hj), Eng.ints_getElem? _ _ hj]
    simp [List.getD, hj]
  · simp [World.frozen?, hb]
theorem putRow_ints {w : World} {g : Nat} {xs ys : List Int} {tl : List Value} (hb : w.heap[g]? = some (.cells (Eng.ints xs ++ tl).toArray 3 (0, 0))) (hl : ys.length = xs.length) :
    (putRow (Value.int .i64) w g 0 ys.toArray).heap[g]? = some (.cells (Eng.ints ys ++ tl).toArray 3 (0, 0)) ∧ Upd w.heap (putRow (Value.int .i64) w g 0 ys.toArray).heap g := by
  have hg := lt_of_get hb
  refine ⟨?_, ?_, ?_⟩
  · simp only [putRow, mapBlock, Array.getElem?_modify, if_true, hb, Option.map_some, onCells]
    congr 2
    refine Array.ext_getElem? fun k => ?_
    simp only [putCells, Array.getElem?_mapIdx, List.getElem?_toArray, Nat.zero_le, true_and, Nat.zero_add, Nat.sub_zero, List.size_toArray]
    by_cases hk : k < ys.length
    · rw [List.getElem?_append_left (by rw [Eng.ints_length]; omega), List.getElem?_append_left (by rw [Eng.ints_length]; omega), Eng.ints_getElem? _ _ (by omega), Eng.ints_getElem? _ _ hk]
      simp [hk, List.getD]
    · rw [List.getElem?_append_right (by rw [Eng.ints_length]; omega), List.getElem?_append_right (by rw [Eng.ints_length]; omega), Eng.ints_length, Eng.ints_length, hl]
      cases tl[k - xs.length]? with
      | none => rfl
      | some v => simp [hk]; omega
  · simp [putRow, mapBlock]
  · intro b hne
    simp only [putRow, mapBlock, Array.getElem?_modify]
    rw [if_neg (fun e => hne e.symm)]
theorem calls_fin {P : Program} {f : FuncId} {args : Array Value} {K : Value → Eng.Heap → Prop} {h : Eng.Heap} (hb : bodied P f = true) (H : ∀ w : World, w.heap = h → Calls P f args w fun e w' => ∃ v, e = .returned v ∧ K v w'.heap ∧ w'.os = w.os ∧ w'.tape = w.tape ∧ w'.output = w.output) : CallsH P f args h K := by
  unfold CallsH CallsW
  refine ⟨hb, fun w hw => ?_⟩
  refine (H w hw).mono fun e w' ⟨v, he, hk, h1, h2, h3⟩ => ⟨v, he, hk, h1, h2, h3⟩
def srt (l : List Int) : Prop := l.Pairwise (· ≤ ·)
theorem msort_ok (xs : List Int) : (xs.mergeSort fun x y => decide (x ≤ y)).Perm xs ∧ srt (xs.mergeSort fun x y => decide (x ≤ y)) := by
  refine ⟨List.mergeSort_perm _ _, ?_⟩
  have := List.pairwise_mergeSort (le := fun x y : Int => decide (x ≤ y)) (fun a b c h1 h2 => by simp at *; omega) (fun a b => by simp; omega) xs
  exact this.imp fun h => by simpa using h
/-- SORT, of a block's first cells. -/
theorem sort73 (g c n : Nat) (xs : List Int) (tl : List Value) (h : Eng.Heap) (hb : h[g]? = some (.cells (Eng.ints xs ++ tl).toArray 3)) (hn : n = xs.length) (hl : n ≤ 1000000) :
    CallsH Try.prog 73 #[.slice (some ⟨g, 0, none⟩) n c] h (fun v h' => v = .tuple #[] ∧ (h.size ≤ h'.size ∧ ∀ b, b < h.size → b ≠ g → h'[b]? = h[b]?) ∧ ∃ ys, ys.Perm xs ∧ srt ys ∧ h'[g]? = some (.cells (Eng.ints ys ++ tl).toArray 3)) := by
  subst hn
  refine calls_fin (by kernel_rfl) fun w hw => ?_
  subst hw
  have hg := lt_of_get hb
  refine (Any.slices_Sort_int Try.lays189 g 0 c xs w (holds_ints hb) hg (by omega)).mono ?_
  rintro e w' ⟨rfl, n, os, rfl⟩
  obtain ⟨p1, p2⟩ := msort_ok xs
  have hb' : (Go.Sort.ahead w n).heap[g]? = some (.cells (Eng.ints xs ++ tl).toArray 3 (0, 0)) := hb
  obtain ⟨q1, q2⟩ := putRow_ints (ys := xs.mergeSort fun x y => decide (x ≤ y)) hb' p1.length_eq
  refine ⟨_, rfl, ⟨rfl, ⟨?_, fun b hbl hne => ?_⟩, _, p1, p2, ?_⟩, rfl, rfl, rfl⟩
  · show w.heap.size ≤ ((putRow _ _ _ _ _).heap ++ os).size
    rw [Array.size_append, q2.size]
    show w.heap.size ≤ w.heap.size + _
    omega
  · show ((putRow _ _ _ _ _).heap ++ os)[b]? = _
    rw [Array.getElem?_append_left (by rw [q2.size]; exact hbl), q2.old b hne]
    rfl
  · show ((putRow _ _ _ _ _).heap ++ os)[g]? = _
    rw [Array.getElem?_append_left (by rw [q2.size]; exact hg)]
    exact q1
theorem sort0 (a : Option Addr) (c : Nat) (h : Eng.Heap) : CallsH Try.prog 73 #[.slice a 0 c] h (fun v h' => v = .tuple #[] ∧ h' = h) := by
  refine calls_fin (by kernel_rfl) fun w hw => ?_
  subst hw
  refine (Any.slices_Sort_int_none Try.lays189 a c w).mono ?_
  rintro e w' ⟨rfl, rfl⟩
  exact ⟨_, rfl, ⟨rfl, rfl⟩, rfl, rfl, rfl⟩
theorem compact0 (a : Option Addr) (c : Nat) (h : Eng.Heap) : CallsH Try.prog 56 #[.slice a 0 c] h (fun v h' => v = .slice a 0 c ∧ h' = h) := by
  refine calls_fin (by kernel_rfl) fun w hw => ?_
  subst hw
  refine (Any.slices_Compact_int_empty Try.lays20 a c w).mono ?_
  rintro e w' ⟨rfl, rfl⟩
  exact ⟨_, rfl, ⟨rfl, rfl⟩, rfl, rfl, rfl⟩
theorem compact56 (g c n : Nat) (xs : List Int) (tl : List Value) (h : Eng.Heap) (hb : h[g]? = some (.cells (Eng.ints xs ++ tl).toArray 3)) (hn : n = xs.length) (hc : n ≤ c) (hl : n ≤ 1000000) :
    CallsH Try.prog 56 #[.slice (some ⟨g, 0, none⟩) n c] h (fun v h' => v = .slice (some ⟨g, 0, none⟩) (Lib.compact xs).length c ∧ Upd h h' g) := by
  subst hn
  refine calls_fin (by kernel_rfl) fun w hw => ?_
  subst hw
  refine (Any.slices_Compact_int Try.lays20 g 0 c xs w (holds_ints hb) (by omega) hc).mono ?_
  rintro e w' ⟨rfl, n, rfl⟩
  refine ⟨_, rfl, ⟨rfl, ⟨?_, ?_⟩⟩, rfl, rfl, rfl⟩
  · simp [putRow, mapBlock, Go.Sort.ahead]
  · intro b hne
    simp only [putRow, mapBlock, Array.getElem?_modify]
    rw [if_neg (fun e => hne e.symm)]
    rfl
/-- SORT, of a slice of one's own. -/
theorem sort73_own (m n c : Nat) (a : Option Addr) (xs : List Int) (h : Eng.Heap) (O : OwnI m h 3 a n c xs) (hl : n ≤ 1000000) :
    CallsH Try.prog 73 #[.slice a n c] h (fun v h' => v = .tuple #[] ∧ (h.size ≤ h'.size ∧ ∀ b, b < h.size → b < m → h'[b]? = h[b]?) ∧ ∃ ys, ys.Perm xs ∧ srt ys ∧ OwnI m h' 3 a n c ys) := by
  have hn := O.ln
  by_cases h0 : 0 < n
  · obtain ⟨g, tl, rfl, hg, hb, hc, hc2, _⟩ := O.block h0
    refine CallsH.mono (sort73 g c n xs tl h hb hn hl) ?_
    rintro v h' ⟨rfl, ⟨q1, q2⟩, ys, hp, hs, hb2⟩
    have e := hp.length_eq
    refine ⟨rfl, ⟨q1, fun b h1 h2 => q2 b h1 (by omega)⟩, ys, hp, hs, ?_⟩
    have := OwnI.of_block (xs := ys) (cap := c) hg hb2 (by omega) (by omega)
    rwa [show ys.length = n by omega] at this
  · obtain rfl : n = 0 := by omega
    refine CallsH.mono (sort0 a c h) ?_
    rintro v h' ⟨rfl, rfl⟩
    obtain rfl : xs = [] := List.length_eq_zero_iff.1 hn.symm
    exact ⟨rfl, ⟨Nat.le_refl _, fun b _ _ => rfl⟩, [], List.Perm.refl _, List.Pairwise.nil, O⟩
end Go.Proofs.Ytmgkeeefbfefgaa
