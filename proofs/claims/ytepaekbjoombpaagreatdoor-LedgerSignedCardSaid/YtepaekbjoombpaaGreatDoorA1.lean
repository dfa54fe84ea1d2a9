/- Walks: within, and what it calls. -/
import Derived.Test.YtepaekbjoombpaaGreatDoorTab
namespace Go.Proofs.YtepaekbjoombpaaGreatDoor
open Go Go.Proofs Go.Eng Tab
set_option maxRecDepth 100000
set_option linter.unusedSimpArgs false
set_option linter.unusedVariables false
set_option maxHeartbeats 1000000
set_option linter.defProp false
def A1Fs113 := (And.intro @agg3 (And.intro @inf3 @sz3))
def A1Fs138 := (And.intro (And.intro @agg3 @by3) (And.intro @inf3 (And.intro @sz3 @Tryz.underlying40)))
theorem within113 (n lo hi : Int) (p q : Nat) (h : Heap) (hp : h[p]? = some (.cells #[.int .i64 lo] 3)) (hq : h[q]? = some (.cells #[.int .i64 hi] 3)) :
    CallsH Tryz.prog 113 (#[] ++ #[.int .i64 n] ++ #[.pointer (some ⟨p, 0, none⟩), .pointer (some ⟨q, 0, none⟩)]) h (fun v h' => v = .bool (decide (n < lo) || decide (hi < n)) ∧ Ext h h') := by
  simp only [Array.append_empty, Array.empty_append, List.append_toArray, List.cons_append, List.nil_append]
  refine CallsH_of_exec Tryz.func113 rfl bod113 ?_
  simp only [Tryz.ntmps113, Tryz.results113, coreS, stK_some, splice, Value.cells, Value.oneCell', Nat.reduceAdd, Nat.reduceSub, Nat.reduceMul, Nat.reduceLeDiff, Int.reduceEq, Nat.reduceEqDiff, A1Fs113]
  simp only [hp, hq, coreS, stK_some, splice, Value.cells, Value.oneCell', Nat.reduceAdd, Nat.reduceSub, Nat.reduceMul, Nat.reduceLeDiff, Int.reduceEq, Nat.reduceEqDiff, A1Fs113]
  constructor
  · intro h1; simp [h1, Ext.refl]
  · intro h1; simp [h1, Ext.refl]
def idx (p : Int → Bool) (xs : List Int) : Int := match xs.findIdx? p with | some i => i | none => -1
theorem idx_none {p : Int → Bool} {xs : List Int} (H : ∀ j < xs.length, p (xs.getD j 0) = false) : idx p xs = -1 := by
  have : xs.findIdx? p = none := by
    rw [List.findIdx?_eq_none_iff]
    intro x hx
    obtain ⟨j, hj, rfl⟩ := List.getElem_of_mem hx
    have := H j hj
    simpa [List.getD, List.getElem?_eq_getElem hj] using this
  simp [idx, this]
theorem idx_some {p : Int → Bool} {xs : List Int} {i : Nat} (hi : i < xs.length) (H : ∀ j < i, p (xs.getD j 0) = false) (hp : p (xs.getD i 0) = true) : idx p xs = i := by
  have : xs.findIdx? p = some i := by
    rw [List.findIdx?_eq_some_iff_getElem]
    refine ⟨hi, by simpa [List.getD, List.getElem?_eq_getElem hi] using hp, fun j hj => ?_⟩
    have hj' : j < xs.length := by omega
    have := H j hj
    simpa [List.getD, List.getElem?_eq_getElem hj'] using this
  simp [idx, this]
theorem indexFunc138 (a : Option Addr) (n c : Nat) (xs : List Int) (q : FuncId) (caps : Array Value) (p : Int → Bool) (h : Heap) (hs : IntsV h a n xs) (hl : n ≤ 1000000)
    (hq : ∀ x ∈ xs, ∀ h', Ext h h' → CallsH Tryz.prog q (#[] ++ #[.int .i64 x] ++ caps) h' (fun v h'' => v = .bool (p x) ∧ Ext h' h'')) :
    CallsH Tryz.prog 138 #[.slice a n c, .func (.func q) #[] caps] h (fun v h' => v = .int .i64 (idx p xs) ∧ Ext h h') := by
  have hn := hs.len
  refine CallsH_of_exec Tryz.func138 rfl bod138 ?_
  simp only [Tryz.ntmps138, Tryz.results138, coreS, stK_some, splice, Value.cells, Value.oneCell', Nat.reduceAdd, Nat.reduceSub, Nat.reduceMul, Nat.reduceLeDiff, Int.reduceEq, Nat.reduceEqDiff, A1Fs138]
  refine WP_loopI [4, 5, 8, 9, 10, 11, 12, 13, 14, 15, 16, 17, 18] (fun g h' => ∃ i : Nat, i ≤ n ∧ g 8 = .int .i64 i ∧ (∀ j < i, p (xs.getD j 0) = false) ∧ Ext h h') (fun g _ => match g 8 with | .int _ m => n - m.toNat | _ => 0) ?_ ?_
  · exact ⟨0, by omega, rfl, fun j hj => by omega, Ext.refl h⟩
  · intro g h' hI
    obtain ⟨i, hin, hg8, hno, hx⟩ := hI
    by_cases hi : i < xs.length
    · simp only [hg8, (hs.ext hx).cell hi, coreS, Value.cells, Value.oneCell', Nat.reduceAdd, Nat.reduceSub, Nat.reduceMul, Nat.reduceLeDiff, Int.reduceEq, Nat.reduceEqDiff, A1Fs138]
      refine ⟨fun hlt => ⟨⟨by omega, by omega⟩, (hs.ext hx).isSome (by omega), ?_⟩, fun hge => absurd hge (by omega)⟩
      have hmem : xs.getD i 0 ∈ xs := by simp [List.getD, List.getElem?_eq_getElem hi]
      refine CallsH.mono (hq _ hmem _ hx) ?_
      rintro v h2 ⟨rfl, hx2⟩
      cases hp : p (xs.getD i 0)
      · simp only [coreS, Value.cells, Value.oneCell', Nat.reduceAdd, Nat.reduceSub, Nat.reduceMul, Nat.reduceLeDiff, Int.reduceEq, Nat.reduceEqDiff, A1Fs138]
        refine ⟨by rw [inK_i64]; omega, roundK_mk (by kernel_rfl) ⟨i + 1, by omega, rfl, ?_, hx.trans hx2⟩ ?_⟩
        · intro j hj
          by_cases hji : j = i
          · subst hji; exact hp
          · exact hno j (by omega)
        · show n - ((i : Int) + 1).toNat < n - (i : Int).toNat
          omega
      · simp only [coreS, Value.cells, Value.oneCell', Nat.reduceAdd, Nat.reduceSub, Nat.reduceMul, Nat.reduceLeDiff, Int.reduceEq, Nat.reduceEqDiff, A1Fs138]
        exact ⟨by rw [idx_some hi hno hp], hx.trans hx2⟩
    · simp only [hg8, coreS, Value.cells, Value.oneCell', Nat.reduceAdd, Nat.reduceSub, Nat.reduceMul, Nat.reduceLeDiff, Int.reduceEq, Nat.reduceEqDiff, A1Fs138]
      refine ⟨fun hlt => absurd hlt (by omega), fun hge => ?_⟩
      exact ⟨by rw [idx_none fun j hj => hno j (by omega)], hx⟩
theorem containsFunc112 (a : Option Addr) (n c : Nat) (xs : List Int) (q : FuncId) (caps : Array Value) (p : Int → Bool) (h : Heap) (hs : IntsV h a n xs) (hl : n ≤ 1000000)
    (hq : ∀ x ∈ xs, ∀ h', Ext h h' → CallsH Tryz.prog q (#[] ++ #[.int .i64 x] ++ caps) h' (fun v h'' => v = .bool (p x) ∧ Ext h' h'')) :
    CallsH Tryz.prog 112 #[.slice a n c, .func (.func q) #[] caps] h (fun v h' => v = .bool (xs.any p) ∧ Ext h h') := by
  refine CallsH_of_exec Tryz.func112 rfl bod112 ?_
  simp only [Tryz.ntmps112, Tryz.results112, coreS, stK_some, splice, Value.cells, Value.oneCell', Nat.reduceAdd, Nat.reduceSub, Nat.reduceMul, Nat.reduceLeDiff, Int.reduceEq, Nat.reduceEqDiff]
  refine CallsH.mono (indexFunc138 a n c xs q caps p h hs hl hq) ?_
  rintro v h2 ⟨rfl, hx⟩
  simp only [coreS, Value.cells, Value.oneCell', Nat.reduceAdd, Nat.reduceSub, Nat.reduceMul, Nat.reduceLeDiff, Int.reduceEq, Nat.reduceEqDiff]
  refine ⟨?_, hx⟩
  congr 1
  unfold idx
  cases hf : xs.findIdx? p with
  | none =>
    rw [List.findIdx?_eq_none_iff] at hf
    have : xs.any p = false := by rw [List.any_eq_false]; intro x hx; simp [hf x hx]
    simp [this]
  | some i =>
    rw [List.findIdx?_eq_some_iff_getElem] at hf
    obtain ⟨hi, hp, _⟩ := hf
    have : xs.any p = true := by rw [List.any_eq_true]; exact ⟨xs[i], List.getElem_mem hi, hp⟩
    simp [this]
def inB (lo hi : Int) (xs : List Int) : Bool := xs.all fun x => decide (lo ≤ x) && decide (x ≤ hi)
theorem within71 (lo hi : Int) (a : Option Addr) (n c : Nat) (xs : List Int) (h : Heap) (hs : IntsV h a n xs) (hl : n ≤ 1000000) :
    CallsH Tryz.prog 71 #[.int .i64 lo, .int .i64 hi, .slice a n c] h (fun v h' => v = .bool (inB lo hi xs) ∧ Ext h h') := by
  refine CallsH_of_exec Tryz.func71 rfl bod71 ?_
  simp only [Tryz.ntmps71, Tryz.results71, coreS, stK_some, splice, Value.cells, Value.oneCell', Nat.reduceAdd, Nat.reduceSub, Nat.reduceMul, Nat.reduceLeDiff, Int.reduceEq, Nat.reduceEqDiff]
  refine CallsH.mono (containsFunc112 a n c xs 113 _ (fun x => decide (x < lo) || decide (hi < x)) _ ((hs.push _).push _) hl ?_) ?_
  · intro x _ h' hx
    exact within113 x lo hi _ _ h' (hx.get (by simp only [push_get, push_size, Nat.left_eq_add, Nat.succ_ne_self, if_false, if_true])) (hx.get (by simp only [push_get, push_size, if_true]))
  · rintro v h2 ⟨rfl, hx⟩
    simp only [coreS, Value.cells, Value.oneCell', Nat.reduceAdd, Nat.reduceSub, Nat.reduceMul, Nat.reduceLeDiff, Int.reduceEq, Nat.reduceEqDiff]
    refine ⟨?_, hx.of_push.of_push⟩
    congr 1
    simp only [inB, List.not_any_eq_all_not]
    congr 1
    funext x
    by_cases h1 : x < lo <;> by_cases h2 : hi < x <;> simp [h1, h2, Int.not_lt.1, Int.not_le] <;> omega
end Go.Proofs.YtepaekbjoombpaaGreatDoor
