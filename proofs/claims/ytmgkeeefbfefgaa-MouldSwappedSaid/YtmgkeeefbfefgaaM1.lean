/- Walks: within, and what it calls; Ints, great, long, of. -/
import Derived.Test.YtmgkeeefbfefgaaW0
namespace Go.Proofs.Ytmgkeeefbfefgaa
open Go Go.Proofs Go.Eng Tab
set_option maxRecDepth 100000
set_option linter.unusedSimpArgs false
set_option linter.unusedVariables false
set_option maxHeartbeats 1000000
set_option linter.defProp false
def M1Fs15 := (And.intro (And.intro @agg22 @fo24_2) (And.intro @inf22 (And.intro @sz22 @Try.underlying22)))
def M1Fs24 := (And.intro (And.intro @agg3 @by3) (And.intro @inf3 (And.intro @sz3 @Try.underlying25)))
def M1Fs71 := (And.intro (And.intro @agg3 @by3) (And.intro @inf3 (And.intro @sz3 @Try.underlying25)))
def M1Fs84 := (And.intro @agg3 (And.intro @inf3 @sz3))
def M1Fs90 := (And.intro (And.intro @agg3 @by3) (And.intro @inf3 (And.intro @sz3 @Try.underlying25)))
def M1Fs91 := (And.intro (And.intro @agg3 @by3) (And.intro @inf3 (And.intro @sz3 @Try.underlying25)))
theorem within84 (n lo hi : Int) (p q : Nat) (h : Heap) (hp : h[p]? = some (.cells #[.int .i64 lo] 3)) (hq : h[q]? = some (.cells #[.int .i64 hi] 3)) :
    CallsH Try.prog 84 (#[] ++ #[.int .i64 n] ++ #[.pointer (some ⟨p, 0, none⟩), .pointer (some ⟨q, 0, none⟩)]) h (fun v h' => v = .bool (decide (n < lo) || decide (hi < n)) ∧ Ext h h') := by
  simp only [Array.append_empty, Array.empty_append, List.append_toArray, List.cons_append, List.nil_append]
  (refine CallsH_of_exec Try.func84 rfl bod84 ?_; simp only [Try.ntmps84, Try.results84, coreS, stK_some, splice, Value.cells, Value.oneCell', Nat.reduceAdd, Nat.reduceSub, Nat.reduceMul, Nat.reduceLeDiff, Int.reduceEq, Nat.reduceEqDiff, M1Fs84])
  simp only [hp, hq, coreS, stK_some, splice, Value.cells, Value.oneCell', Nat.reduceAdd, Nat.reduceSub, Nat.reduceMul, Nat.reduceLeDiff, Int.reduceEq, Nat.reduceEqDiff, M1Fs84]
  constructor
  · intro h1; simp [h1, Ext.refl]
  · intro h1; simp [h1, Ext.refl]
def idx (p : Int → Bool) (xs : List Int) : Int := match xs.findIdx? p with | some i => i | none => -1
theorem idx_none {p : Int → Bool} {xs : List Int} (H : ∀ j < xs.length, p (xs.getD j 0) = false) : idx p xs = -1 := by
  have : xs.findIdx? p = none := by
    rw [List.findIdx?_eq_none_iff]
    intro x hx
    obtain ⟨j, hj, rfl⟩ := List.getElem_of_mem hx
    have := H j hj
    simpa [List.getD, List.getElem?_eq_getElem hj] using this
  simp [idx, this]
theorem idx_some {p : Int → Bool} {xs : List Int} {i : Nat} (hi : i < xs.length) (H : ∀ j < i, p (xs.getD j 0) = false) (hp : p (xs.getD i 0) = true) : idx p xs = i := by
  have : xs.findIdx? p = some i := by
    rw [List.findIdx?_eq_some_iff_getElem]
    refine ⟨hi, by simpa [List.getD, List.getElem?_eq_getElem hi] using hp, fun j hj => ?_⟩
    have hj' : j < xs.length := by omega
    have := H j hj
    simpa [List.getD, List.getElem?_eq_getElem hj'] using this
  simp [idx, this]
theorem idx_any (p : Int → Bool) (xs : List Int) : decide (0 ≤ idx p xs) = xs.any p := by
  unfold idx
  cases hf : xs.findIdx? p with
  | none =>
    rw [List.findIdx?_eq_none_iff] at hf
    have : xs.any p = false := by rw [List.any_eq_false]; intro x hx; simp [hf x hx]
    simp [this]
  | some i =>
    rw [List.findIdx?_eq_some_iff_getElem] at hf
    obtain ⟨hi, hp, _⟩ := hf
    have : xs.any p = true := by rw [List.any_eq_true]; exact ⟨xs[i], List.getElem_mem hi, hp⟩
    simp [this]
theorem indexFunc90 (a : Option Addr) (n c : Nat) (xs : List Int) (q : FuncId) (caps : Array Value) (p : Int → Bool) (h : Heap) (hs : IntsV h a n xs) (hl : n ≤ 1000000)
    (hq : ∀ x ∈ xs, ∀ h', Ext h h' → CallsH Try.prog q (#[] ++ #[.int .i64 x] ++ caps) h' (fun v h'' => v = .bool (p x) ∧ Ext h' h'')) :
    CallsH Try.prog 90 #[.slice a n c, .func (.func q) #[] caps] h (fun v h' => v = .int .i64 (idx p xs) ∧ Ext h h') := by
  have hn := hs.len
  (refine CallsH_of_exec Try.func90 rfl bod90 ?_; simp only [Try.ntmps90, Try.results90, coreS, stK_some, splice, Value.cells, Value.oneCell', Nat.reduceAdd, Nat.reduceSub, Nat.reduceMul, Nat.reduceLeDiff, Int.reduceEq, Nat.reduceEqDiff, M1Fs90])
  refine WP_loopI [4, 5, 8, 9, 10, 11, 12, 13, 14, 15, 16, 17, 18] (fun g h' => ∃ i : Nat, i ≤ n ∧ g 8 = .int .i64 i ∧ (∀ j < i, p (xs.getD j 0) = false) ∧ Ext h h') (fun g _ => match g 8 with | .int _ m => n - m.toNat | _ => 0) ?_ ?_
  · exact ⟨0, by omega, rfl, fun j hj => by omega, Ext.refl h⟩
  · intro g h' hI
    obtain ⟨i, hin, hg8, hno, hx⟩ := hI
    by_cases hi : i < xs.length
    · simp only [hg8, (hs.ext hx).cell hi, coreS, Value.cells, Value.oneCell', Nat.reduceAdd, Nat.reduceSub, Nat.reduceMul, Nat.reduceLeDiff, Int.reduceEq, Nat.reduceEqDiff, M1Fs90]
      refine ⟨fun hlt => ⟨⟨by omega, by omega⟩, (hs.ext hx).isSome (by omega), ?_⟩, fun hge => absurd hge (by omega)⟩
      have hmem : xs.getD i 0 ∈ xs := by simp [List.getD, List.getElem?_eq_getElem hi]
      refine CallsH.mono (hq _ hmem _ hx) ?_
      rintro v h2 ⟨rfl, hx2⟩
      cases hp : p (xs.getD i 0)
      · simp only [coreS, Value.cells, Value.oneCell', Nat.reduceAdd, Nat.reduceSub, Nat.reduceMul, Nat.reduceLeDiff, Int.reduceEq, Nat.reduceEqDiff, M1Fs90]
        refine ⟨by rw [inK_i64]; omega, roundK_mk (by kernel_rfl) ⟨i + 1, by omega, rfl, ?_, hx.trans hx2⟩ ?_⟩
        · intro j hj
          by_cases hji : j = i
          · subst hji; exact hp
          · exact hno j (by omega)
        · show n - ((i : Int) + 1).toNat < n - (i : Int).toNat
          omega
      · simp only [coreS, Value.cells, Value.oneCell', Nat.reduceAdd, Nat.reduceSub, Nat.reduceMul, Nat.reduceLeDiff, Int.reduceEq, Nat.reduceEqDiff, M1Fs90]
        exact ⟨by rw [idx_some hi hno hp], hx.trans hx2⟩
    · simp only [hg8, coreS, Value.cells, Value.oneCell', Nat.reduceAdd, Nat.reduceSub, Nat.reduceMul, Nat.reduceLeDiff, Int.reduceEq, Nat.reduceEqDiff, M1Fs90]
      refine ⟨fun hlt => absurd hlt (by omega), fun hge => ?_⟩
      exact ⟨by rw [idx_none fun j hj => hno j (by omega)], hx⟩
theorem containsFunc75 (a : Option Addr) (n c : Nat) (xs : List Int) (q : FuncId) (caps : Array Value) (p : Int → Bool) (h : Heap) (hs : IntsV h a n xs) (hl : n ≤ 1000000)
    (hq : ∀ x ∈ xs, ∀ h', Ext h h' → CallsH Try.prog q (#[] ++ #[.int .i64 x] ++ caps) h' (fun v h'' => v = .bool (p x) ∧ Ext h' h'')) :
    CallsH Try.prog 75 #[.slice a n c, .func (.func q) #[] caps] h (fun v h' => v = .bool (xs.any p) ∧ Ext h h') := by
  (refine CallsH_of_exec Try.func75 rfl bod75 ?_; simp only [Try.ntmps75, Try.results75, coreS, stK_some, splice, Value.cells, Value.oneCell', Nat.reduceAdd, Nat.reduceSub, Nat.reduceMul, Nat.reduceLeDiff, Int.reduceEq, Nat.reduceEqDiff])
  refine CallsH.mono (indexFunc90 a n c xs q caps p h hs hl hq) ?_
  rintro v h2 ⟨rfl, hx⟩
  simp only [coreS, Value.cells, Value.oneCell', Nat.reduceAdd, Nat.reduceSub, Nat.reduceMul, Nat.reduceLeDiff, Int.reduceEq, Nat.reduceEqDiff]
  refine ⟨?_, hx⟩
  congr 1
  exact idx_any p xs
theorem within52 (lo hi : Int) (a : Option Addr) (n c : Nat) (xs : List Int) (h : Heap) (hs : IntsV h a n xs) (hl : n ≤ 1000000) :
    CallsH Try.prog 52 #[.int .i64 lo, .int .i64 hi, .slice a n c] h (fun v h' => v = .bool (inB lo hi xs) ∧ Ext h h') := by
  (refine CallsH_of_exec Try.func52 rfl bod52 ?_; simp only [Try.ntmps52, Try.results52, coreS, stK_some, splice, Value.cells, Value.oneCell', Nat.reduceAdd, Nat.reduceSub, Nat.reduceMul, Nat.reduceLeDiff, Int.reduceEq, Nat.reduceEqDiff])
  refine CallsH.mono (containsFunc75 a n c xs 84 _ (fun x => decide (x < lo) || decide (hi < x)) _ ((hs.push _).push _) hl ?_) ?_
  · intro x _ h' hx
    exact within84 x lo hi _ _ h' (hx.get (by simp only [push_get, push_size, Nat.left_eq_add, Nat.succ_ne_self, if_false, if_true])) (hx.get (by simp only [push_get, push_size, if_true]))
  · rintro v h2 ⟨rfl, hx⟩
    simp only [coreS, Value.cells, Value.oneCell', Nat.reduceAdd, Nat.reduceSub, Nat.reduceMul, Nat.reduceLeDiff, Int.reduceEq, Nat.reduceEqDiff]
    refine ⟨?_, hx.of_push.of_push⟩
    congr 1
    simp only [inB, List.not_any_eq_all_not]
    congr 1
    funext x
    by_cases h1 : x < lo <;> by_cases h2 : hi < x <;> simp [h1, h2, Int.not_lt.1, Int.not_le] <;> omega
theorem index91 (a : Option Addr) (n c : Nat) (xs : List Int) (x : Int) (h : Heap) (hs : IntsV h a n xs) (hl : n ≤ 1000000) :
    CallsH Try.prog 91 #[.slice a n c, .int .i64 x] h (fun v h' => v = .int .i64 (idx (fun y => decide (x = y)) xs) ∧ Ext h h') := by
  have hn := hs.len
  (refine CallsH_of_exec Try.func91 rfl bod91 ?_; simp only [Try.ntmps91, Try.results91, coreS, stK_some, splice, Value.cells, Value.oneCell', Nat.reduceAdd, Nat.reduceSub, Nat.reduceMul, Nat.reduceLeDiff, Int.reduceEq, Nat.reduceEqDiff, M1Fs91])
  refine WP_loopI [4, 5, 8, 9, 10, 11, 12, 13, 14, 15, 16, 17, 18] (fun g h' => h' = h ∧ ∃ i : Nat, i ≤ n ∧ g 8 = .int .i64 i ∧ (∀ j < i, decide (x = xs.getD j 0) = false)) (fun g _ => match g 8 with | .int _ m => n - m.toNat | _ => 0) ?_ ?_
  · exact ⟨rfl, 0, by omega, rfl, fun j hj => by omega⟩
  · rintro g h' ⟨rfl, i, hin, hg8, hno⟩
    by_cases hi : i < xs.length
    · simp only [hg8, hs.cell hi, coreS, Value.cells, Value.oneCell', Nat.reduceAdd, Nat.reduceSub, Nat.reduceMul, Nat.reduceLeDiff, Int.reduceEq, Nat.reduceEqDiff, M1Fs91]
      refine ⟨fun hlt => ⟨⟨by omega, by omega⟩, hs.isSome (by omega), ?_⟩, fun hge => absurd hge (by omega)⟩
      refine ⟨fun hp => ?_, fun hp => ?_⟩
      · exact ⟨by rw [idx_some hi hno (by simpa using hp)], Ext.refl _⟩
      · refine ⟨by rw [inK_i64]; omega, roundK_mk (by kernel_rfl) ⟨rfl, i + 1, by omega, rfl, ?_⟩ ?_⟩
        · intro j hj
          by_cases hji : j = i
          · subst hji; simpa using hp
          · exact hno j (by omega)
        · show n - ((i : Int) + 1).toNat < n - (i : Int).toNat
          omega
    · simp only [hg8, coreS, Value.cells, Value.oneCell', Nat.reduceAdd, Nat.reduceSub, Nat.reduceMul, Nat.reduceLeDiff, Int.reduceEq, Nat.reduceEqDiff, M1Fs91]
      refine ⟨fun hlt => absurd hlt (by omega), fun hge => ?_⟩
      exact ⟨by rw [idx_none fun j hj => hno j (by omega)], Ext.refl _⟩
theorem contains66 (a : Option Addr) (n c : Nat) (xs : List Int) (x : Int) (h : Heap) (hs : IntsV h a n xs) (hl : n ≤ 1000000) :
    CallsH Try.prog 66 #[.slice a n c, .int .i64 x] h (fun v h' => v = .bool (xs.contains x) ∧ Ext h h') := by
  (refine CallsH_of_exec Try.func66 rfl bod66 ?_; simp only [Try.ntmps66, Try.results66, coreS, stK_some, splice, Value.cells, Value.oneCell', Nat.reduceAdd, Nat.reduceSub, Nat.reduceMul, Nat.reduceLeDiff, Int.reduceEq, Nat.reduceEqDiff])
  refine CallsH.mono (index91 a n c xs x h hs hl) ?_
  rintro v h2 ⟨rfl, hx⟩
  simp only [coreS, Value.cells, Value.oneCell', Nat.reduceAdd, Nat.reduceSub, Nat.reduceMul, Nat.reduceLeDiff, Int.reduceEq, Nat.reduceEqDiff]
  refine ⟨?_, hx⟩
  congr 1
  rw [idx_any, List.contains_eq_any_beq]
  congr 1
theorem has71 (a : Option Addr) (n c : Nat) (xs : List Int) (x : Int) (h : Heap) (hs : IntsV h a n xs) (hl : n ≤ 1000000) :
    CallsH Try.prog 71 #[.slice a n c, .int .i64 x] h (fun v h' => v = .bool (xs.contains x) ∧ h' = h) := by
  have hn := hs.len
  (refine CallsH_of_exec Try.func71 rfl bod71 ?_; simp only [Try.ntmps71, Try.results71, coreS, stK_some, splice, Value.cells, Value.oneCell', Nat.reduceAdd, Nat.reduceSub, Nat.reduceMul, Nat.reduceLeDiff, Int.reduceEq, Nat.reduceEqDiff, M1Fs71])
  refine WP_loopI [4, 5, 6, 7, 8, 9, 10, 11, 12, 13, 14, 15, 16, 17] (fun g h' => h' = h ∧ ∃ i : Nat, i ≤ n ∧ g 5 = .int .i64 i ∧ (∀ j < i, xs.getD j 0 ≠ x)) (fun g _ => match g 5 with | .int _ m => n - m.toNat | _ => 0) ?_ ?_
  · exact ⟨rfl, 0, by omega, rfl, fun j hj => by omega⟩
  · rintro g h' ⟨rfl, i, hin, hg8, hno⟩
    by_cases hi : i < xs.length
    · simp only [hg8, hs.cell hi, coreS, Value.cells, Value.oneCell', Nat.reduceAdd, Nat.reduceSub, Nat.reduceMul, Nat.reduceLeDiff, Int.reduceEq, Nat.reduceEqDiff, M1Fs71]
      refine ⟨fun hlt => ⟨⟨by omega, by omega⟩, hs.isSome (by omega), ?_⟩, fun hge => absurd hge (by omega)⟩
      refine ⟨fun hp => ?_, fun hp => ?_⟩
      · have : xs.contains x = true := by
          rw [List.contains_iff_mem, ← hp]
          simp [List.getD, List.getElem?_eq_getElem hi]
        rw [this]
      · refine ⟨by rw [inK_i64]; omega, roundK_mk (by kernel_rfl) ⟨rfl, i + 1, by omega, rfl, ?_⟩ ?_⟩
        · intro j hj
          by_cases hji : j = i
          · subst hji; exact hp
          · exact hno j (by omega)
        · show n - ((i : Int) + 1).toNat < n - (i : Int).toNat
          omega
    · simp only [hg8, coreS, Value.cells, Value.oneCell', Nat.reduceAdd, Nat.reduceSub, Nat.reduceMul, Nat.reduceLeDiff, Int.reduceEq, Nat.reduceEqDiff, M1Fs71]
      refine ⟨fun hlt => absurd hlt (by omega), fun hge => ?_⟩
      have : xs.contains x = false := by
        rw [Bool.eq_false_iff, Ne, List.contains_iff_mem]
        intro hm
        obtain ⟨j, hj, rfl⟩ := List.getElem_of_mem hm
        exact hno j (by omega) (by simp [List.getD, List.getElem?_eq_getElem hj])
      rw [this]
theorem ints24 (a b : Option Addr) (n c m d : Nat) (xs ys : List Int) (h : Heap) (hs : IntsV h a n xs) (ht : IntsV h b m ys) (hl : n ≤ 1000000) :
    CallsH Try.prog 24 #[.slice a n c, .slice b m d] h (fun v h' => v = .bool (decide (xs = ys)) ∧ h' = h) := by
  have hn := hs.len
  have hm := ht.len
  (refine CallsH_of_exec Try.func24 rfl bod24 ?_; simp only [Try.ntmps24, Try.results24, coreS, stK_some, splice, Value.cells, Value.oneCell', Nat.reduceAdd, Nat.reduceSub, Nat.reduceMul, Nat.reduceLeDiff, Int.reduceEq, Nat.reduceEqDiff, M1Fs24])
  refine ⟨fun he => ?_, fun hne => ?_⟩
  rotate_left
  · have : xs ≠ ys := fun e => by rw [e] at hn; omega
    rw [decide_eq_false this]
  have hnm : xs.length = ys.length := by omega
  refine WP_loopI [4, 5, 11, 12, 13, 14, 15, 16, 17, 18, 19, 20, 21, 22, 23, 24, 25] (fun g h' => h' = h ∧ ∃ i : Nat, i ≤ n ∧ g 5 = .int .i64 i ∧ (∀ j < i, xs.getD j 0 = ys.getD j 0)) (fun g _ => match g 5 with | .int _ m => n - m.toNat | _ => 0) ?_ ?_
  · exact ⟨rfl, 0, by omega, rfl, fun j hj => by omega⟩
  · rintro g h' ⟨rfl, i, hin, hg8, hno⟩
    by_cases hi : i < xs.length
    · have hlt : (i : Int) < (n : Int) := by omega
      simp only [hg8, hlt, decide_true, coreS, Value.cells, Value.oneCell', Nat.reduceAdd, Nat.reduceSub, Nat.reduceMul, Nat.reduceLeDiff, Int.reduceEq, Nat.reduceEqDiff, M1Fs24]
      refine WP_draw (by kernel_rfl) sta_eq [(0, 0), (1, 0), (2, 0), (3, 0), (4, 0), (5, 0), (6, 0), (7, 0), (8, 0)] (by kernel_rfl) rfl (by kernel_rfl) ?_
      simp only [hg8, hs.cell hi, ht.cell (show i < ys.length by omega), hvK_eq, coreS, Value.cells, Value.oneCell', Nat.reduceAdd, Nat.reduceSub, Nat.reduceMul, Nat.reduceLeDiff, Int.reduceEq, Nat.reduceEqDiff, drawS, M1Fs24]
      refine ⟨⟨by omega, by omega⟩, hs.isSome (by omega), ⟨by omega, by omega⟩, ht.isSome (by omega), ?_⟩
      refine ⟨fun hp => ?_, fun hp => ?_⟩
      · refine ⟨by rw [inK_i64]; omega, roundK_mk (by kernel_rfl) ⟨rfl, i + 1, by omega, rfl, ?_⟩ ?_⟩
        · intro j hj
          by_cases hji : j = i
          · subst hji; exact hp
          · exact hno j (by omega)
        · show n - ((i : Int) + 1).toNat < n - (i : Int).toNat
          omega
      · have : xs ≠ ys := fun e => hp (by rw [e])
        rw [decide_eq_false this]
    · have hlt : ¬ ((i : Int) < (n : Int)) := by omega
      simp only [hg8, hlt, decide_false, coreS, Value.cells, Value.oneCell', Nat.reduceAdd, Nat.reduceSub, Nat.reduceMul, Nat.reduceLeDiff, Int.reduceEq, Nat.reduceEqDiff, M1Fs24]
      have : xs = ys := by
        refine List.ext_getElem hnm fun j h1 h2 => ?_
        have := hno j (by omega)
        simpa [List.getD, List.getElem?_eq_getElem h1, List.getElem?_eq_getElem h2] using this
      rw [decide_eq_true this]
theorem great15 (S M : Int) (a : Option Addr) (n c : Nat) (h : Eng.Heap) :
    CallsH Try.prog 15 #[.agg #[.int .i64 S, .int .i64 M, .slice a n c]] h (fun v h' => v = .bool (decide (20 < (n : Int))) ∧ Ext h h') := by
  (refine CallsH_of_exec Try.func15 rfl bod15 ?_; simp only [Try.ntmps15, Try.results15, coreS, stK_some, splice, Value.cells, Value.oneCell', Nat.reduceAdd, Nat.reduceSub, Nat.reduceMul, Nat.reduceLeDiff, Int.reduceEq, Nat.reduceEqDiff, M1Fs15])
  exact (Ext.refl h).push _
theorem long16 (a : Option Addr) (n c : Nat) (h : Eng.Heap) : CallsH Try.prog 16 #[.slice a n c] h (fun v h' => v = .bool (decide (24 < (n : Int))) ∧ h' = h) := by
  (refine CallsH_of_exec Try.func16 rfl bod16 ?_; simp only [Try.ntmps16, Try.results16, coreS, stK_some, splice, Value.cells, Value.oneCell', Nat.reduceAdd, Nat.reduceSub, Nat.reduceMul, Nat.reduceLeDiff, Int.reduceEq, Nat.reduceEqDiff, Try.underlying25])
theorem of46 (a : Option Addr) (n c : Nat) (h : Eng.Heap) : CallsH Try.prog 46 #[.slice a n c] h (fun v h' => v = .slice a n c ∧ h' = h) := by
  (refine CallsH_of_exec Try.func46 rfl bod46 ?_; simp only [Try.ntmps46, Try.results46, coreS, stK_some, splice, Value.cells, Value.oneCell', Nat.reduceAdd, Nat.reduceSub, Nat.reduceMul, Nat.reduceLeDiff, Int.reduceEq, Nat.reduceEqDiff])
end Go.Proofs.Ytmgkeeefbfefgaa
