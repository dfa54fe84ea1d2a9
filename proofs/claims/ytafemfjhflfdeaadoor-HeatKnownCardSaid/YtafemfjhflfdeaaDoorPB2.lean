/- Texts joined by pack.py: lemmas for YtafemfjhflfdeaaDoorKnown. No condition. -/
import Derived.Test.YtafemfjhflfdeaaDoorPB1
import Derived.KernelRfl
import Derived.Test.YtafemfjhflfdeaaDoorProg
import Derived.Shelf.Strings.SlTrimAscii
import Derived.Shelf.Strings.Count
import Derived.Ground.NamesProg
set_option linter.unusedSimpArgs false
set_option linter.unusedVariables false
set_option linter.defProp false
section
namespace Go.Proofs.YtafemfjhflfdeaaDoor.Tab
open Go Go.Proofs Go.Eng
theorem sz2 : szT Tryd.prog 2 = 1 := by kernel_rfl
theorem inf2 : (Tryd.prog.info? 2).isSome = true := by kernel_rfl
theorem agg2 : aggT Tryd.prog 2 = some false := by kernel_rfl
theorem sz3 : szT Tryd.prog 3 = 1 := by kernel_rfl
theorem by3 : bytesT Tryd.prog 3 = 8 := by kernel_rfl
theorem inf3 : (Tryd.prog.info? 3).isSome = true := by kernel_rfl
theorem agg3 : aggT Tryd.prog 3 = some false := by kernel_rfl
theorem zero3 : zeroT Tryd.prog 3 = some (.int .i64 0) := by kernel_rfl
theorem sz5 : szT Tryd.prog 5 = 1 := by kernel_rfl
theorem by5 : bytesT Tryd.prog 5 = 1 := by kernel_rfl
theorem inf5 : (Tryd.prog.info? 5).isSome = true := by kernel_rfl
theorem zero5 : zeroT Tryd.prog 5 = some (.int .u8 0) := by kernel_rfl
theorem sz9 : szT Tryd.prog 9 = 1 := by kernel_rfl
theorem inf9 : (Tryd.prog.info? 9).isSome = true := by kernel_rfl
theorem agg9 : aggT Tryd.prog 9 = some false := by kernel_rfl
theorem sz22 : szT Tryd.prog 22 = 1 := by kernel_rfl
theorem inf22 : (Tryd.prog.info? 22).isSome = true := by kernel_rfl
theorem agg22 : aggT Tryd.prog 22 = some false := by kernel_rfl
theorem zero22 : zeroT Tryd.prog 22 = some (.slice none 0 0) := by kernel_rfl
theorem sz24 : szT Tryd.prog 24 = 4 := by kernel_rfl
theorem inf24 : (Tryd.prog.info? 24).isSome = true := by kernel_rfl
theorem agg24 : aggT Tryd.prog 24 = some true := by kernel_rfl
theorem zero24 : zeroT Tryd.prog 24 = some (.agg #[.slice none 0 0, .slice none 0 0, .int .i64 0, .int .i64 0]) := by kernel_rfl
theorem okf24 : okFields Tryd.prog 24 = true := by kernel_rfl
theorem fo24_0 : fieldOff Tryd.prog 24 0 = some 0 := by kernel_rfl
theorem fo24_1 : fieldOff Tryd.prog 24 1 = some 1 := by kernel_rfl
theorem fo24_2 : fieldOff Tryd.prog 24 2 = some 2 := by kernel_rfl
theorem fps24_2 : fieldPS Tryd.prog 24 2 = some (2, 1) := by kernel_rfl
theorem fo24_3 : fieldOff Tryd.prog 24 3 = some 3 := by kernel_rfl
theorem fps24_3 : fieldPS Tryd.prog 24 3 = some (3, 1) := by kernel_rfl
theorem sz28 : szT Tryd.prog 28 = 1 := by kernel_rfl
theorem inf28 : (Tryd.prog.info? 28).isSome = true := by kernel_rfl
theorem agg28 : aggT Tryd.prog 28 = some false := by kernel_rfl
theorem zero28 : zeroT Tryd.prog 28 = some (.int .i64 0) := by kernel_rfl
theorem sz45 : szT Tryd.prog 45 = 2 := by kernel_rfl
theorem by45 : bytesT Tryd.prog 45 = 16 := by kernel_rfl
theorem inf45 : (Tryd.prog.info? 45).isSome = true := by kernel_rfl
theorem agg45 : aggT Tryd.prog 45 = some true := by kernel_rfl
theorem zero45 : zeroT Tryd.prog 45 = some (.agg #[.int .i64 0, .int .i64 0]) := by kernel_rfl
theorem okf45 : okFields Tryd.prog 45 = true := by kernel_rfl
theorem fo45_0 : fieldOff Tryd.prog 45 0 = some 0 := by kernel_rfl
theorem fps45_0 : fieldPS Tryd.prog 45 0 = some (0, 1) := by kernel_rfl
theorem fo45_1 : fieldOff Tryd.prog 45 1 = some 1 := by kernel_rfl
theorem fps45_1 : fieldPS Tryd.prog 45 1 = some (1, 1) := by kernel_rfl
theorem sz54 : szT Tryd.prog 54 = 2 := by kernel_rfl
theorem inf54 : (Tryd.prog.info? 54).isSome = true := by kernel_rfl
theorem agg54 : aggT Tryd.prog 54 = some true := by kernel_rfl
theorem zero54 : zeroT Tryd.prog 54 = some (.agg #[.int .i64 0, .int .i64 0]) := by kernel_rfl
theorem okf54 : okFields Tryd.prog 54 = true := by kernel_rfl
theorem fo54_0 : fieldOff Tryd.prog 54 0 = some 0 := by kernel_rfl
theorem fps54_0 : fieldPS Tryd.prog 54 0 = some (0, 1) := by kernel_rfl
theorem fo54_1 : fieldOff Tryd.prog 54 1 = some 1 := by kernel_rfl
theorem fps54_1 : fieldPS Tryd.prog 54 1 = some (1, 1) := by kernel_rfl
theorem sz79 : szT Tryd.prog 79 = 1 := by kernel_rfl
theorem inf79 : (Tryd.prog.info? 79).isSome = true := by kernel_rfl
theorem agg79 : aggT Tryd.prog 79 = some false := by kernel_rfl
theorem sz84 : szT Tryd.prog 84 = 2 := by kernel_rfl
theorem inf84 : (Tryd.prog.info? 84).isSome = true := by kernel_rfl
theorem agg84 : aggT Tryd.prog 84 = some true := by kernel_rfl
theorem zero84 : zeroT Tryd.prog 84 = some (.agg #[.int .i64 0, .int .i64 0]) := by kernel_rfl
theorem okf84 : okFields Tryd.prog 84 = true := by kernel_rfl
theorem fo84_0 : fieldOff Tryd.prog 84 0 = some 0 := by kernel_rfl
theorem fps84_0 : fieldPS Tryd.prog 84 0 = some (0, 1) := by kernel_rfl
theorem fo84_1 : fieldOff Tryd.prog 84 1 = some 1 := by kernel_rfl
theorem fps84_1 : fieldPS Tryd.prog 84 1 = some (1, 1) := by kernel_rfl
theorem sz97 : szT Tryd.prog 97 = 16 := by kernel_rfl
theorem inf97 : (Tryd.prog.info? 97).isSome = true := by kernel_rfl
theorem agg97 : aggT Tryd.prog 97 = some true := by kernel_rfl
theorem zero97 : zeroT Tryd.prog 97 = some (.agg #[.int .i64 0, .int .i64 0, .int .i64 0, .int .i64 0, .int .i64 0, .int .i64 0, .int .i64 0, .int .i64 0, .int .i64 0, .int .i64 0, .int .i64 0, .int .i64 0, .int .i64 0, .int .i64 0, .int .i64 0, .int .i64 0]) := by kernel_rfl
theorem zero112 : zeroT Tryd.prog 112 = some (.agg #[.slice none 0 0, .slice none 0 0, .int .i64 0, .int .i64 0]) := by kernel_rfl
theorem okf112 : okFields Tryd.prog 112 = true := by kernel_rfl
theorem fo112_0 : fieldOff Tryd.prog 112 0 = some 0 := by kernel_rfl
theorem fps112_0 : fieldPS Tryd.prog 112 0 = some (0, 4) := by kernel_rfl
theorem sz141 : szT Tryd.prog 141 = 3 := by kernel_rfl
theorem inf141 : (Tryd.prog.info? 141).isSome = true := by kernel_rfl
theorem agg141 : aggT Tryd.prog 141 = some true := by kernel_rfl
theorem zero141 : zeroT Tryd.prog 141 = some (.agg #[.int .i64 0, .int .i64 0, .int .i64 0]) := by kernel_rfl
theorem okf141 : okFields Tryd.prog 141 = true := by kernel_rfl
theorem fo141_0 : fieldOff Tryd.prog 141 0 = some 0 := by kernel_rfl
theorem fps141_0 : fieldPS Tryd.prog 141 0 = some (0, 2) := by kernel_rfl
theorem fo141_1 : fieldOff Tryd.prog 141 1 = some 2 := by kernel_rfl
theorem fps141_1 : fieldPS Tryd.prog 141 1 = some (2, 1) := by kernel_rfl
theorem sz143 : szT Tryd.prog 143 = 2 := by kernel_rfl
theorem by143 : bytesT Tryd.prog 143 = 24 := by kernel_rfl
theorem inf143 : (Tryd.prog.info? 143).isSome = true := by kernel_rfl
theorem agg143 : aggT Tryd.prog 143 = some true := by kernel_rfl
theorem zero143 : zeroT Tryd.prog 143 = some (.agg #[.int .i64 0, .string ByteArray.empty]) := by kernel_rfl
theorem okf143 : okFields Tryd.prog 143 = true := by kernel_rfl
theorem fo143_0 : fieldOff Tryd.prog 143 0 = some 0 := by kernel_rfl
theorem fps143_0 : fieldPS Tryd.prog 143 0 = some (0, 1) := by kernel_rfl
theorem fo143_1 : fieldOff Tryd.prog 143 1 = some 1 := by kernel_rfl
theorem fps143_1 : fieldPS Tryd.prog 143 1 = some (1, 1) := by kernel_rfl
theorem fot143_1 : fieldOT Tryd.prog 143 1 = some (1, 9) := by kernel_rfl
theorem bod16 : bodied Tryd.prog 16 = true := by kernel_rfl
theorem bod19 : bodied Tryd.prog 19 = true := by kernel_rfl
theorem bod20 : bodied Tryd.prog 20 = true := by kernel_rfl
theorem bod21 : bodied Tryd.prog 21 = true := by kernel_rfl
theorem bod22 : bodied Tryd.prog 22 = true := by kernel_rfl
theorem bod23 : bodied Tryd.prog 23 = true := by kernel_rfl
theorem bod24 : bodied Tryd.prog 24 = true := by kernel_rfl
theorem bod26 : bodied Tryd.prog 26 = true := by kernel_rfl
theorem bod28 : bodied Tryd.prog 28 = true := by kernel_rfl
theorem bod30 : bodied Tryd.prog 30 = true := by kernel_rfl
theorem bod32 : bodied Tryd.prog 32 = true := by kernel_rfl
theorem bod33 : bodied Tryd.prog 33 = true := by kernel_rfl
theorem bod35 : bodied Tryd.prog 35 = true := by kernel_rfl
theorem bod36 : bodied Tryd.prog 36 = true := by kernel_rfl
theorem bod37 : bodied Tryd.prog 37 = true := by kernel_rfl
theorem bod39 : bodied Tryd.prog 39 = true := by kernel_rfl
theorem bod41 : bodied Tryd.prog 41 = true := by kernel_rfl
theorem bod43 : bodied Tryd.prog 43 = true := by kernel_rfl
theorem bod45 : bodied Tryd.prog 45 = true := by kernel_rfl
theorem bod49 : bodied Tryd.prog 49 = true := by kernel_rfl
theorem bod52 : bodied Tryd.prog 52 = true := by kernel_rfl
theorem bod53 : bodied Tryd.prog 53 = true := by kernel_rfl
theorem bod54 : bodied Tryd.prog 54 = true := by kernel_rfl
theorem bod55 : bodied Tryd.prog 55 = true := by kernel_rfl
theorem bod56 : bodied Tryd.prog 56 = true := by kernel_rfl
theorem bod57 : bodied Tryd.prog 57 = true := by kernel_rfl
theorem bod58 : bodied Tryd.prog 58 = true := by kernel_rfl
theorem bod60 : bodied Tryd.prog 60 = true := by kernel_rfl
theorem bod61 : bodied Tryd.prog 61 = true := by kernel_rfl
theorem bod62 : bodied Tryd.prog 62 = true := by kernel_rfl
theorem bod63 : bodied Tryd.prog 63 = true := by kernel_rfl
theorem bod66 : bodied Tryd.prog 66 = true := by kernel_rfl
theorem bod67 : bodied Tryd.prog 67 = true := by kernel_rfl
theorem bod68 : bodied Tryd.prog 68 = true := by kernel_rfl
theorem bod70 : bodied Tryd.prog 70 = true := by kernel_rfl
theorem bod71 : bodied Tryd.prog 71 = true := by kernel_rfl
theorem bod72 : bodied Tryd.prog 72 = true := by kernel_rfl
theorem bod73 : bodied Tryd.prog 73 = true := by kernel_rfl
theorem bod74 : bodied Tryd.prog 74 = true := by kernel_rfl
theorem bod76 : bodied Tryd.prog 76 = true := by kernel_rfl
theorem bod77 : bodied Tryd.prog 77 = true := by kernel_rfl
theorem bod79 : bodied Tryd.prog 79 = true := by kernel_rfl
theorem bod81 : bodied Tryd.prog 81 = true := by kernel_rfl
theorem bod82 : bodied Tryd.prog 82 = true := by kernel_rfl
theorem bod83 : bodied Tryd.prog 83 = true := by kernel_rfl
theorem bod87 : bodied Tryd.prog 87 = true := by kernel_rfl
theorem bod88 : bodied Tryd.prog 88 = true := by kernel_rfl
theorem bod89 : bodied Tryd.prog 89 = true := by kernel_rfl
theorem bod90 : bodied Tryd.prog 90 = true := by kernel_rfl
theorem bod91 : bodied Tryd.prog 91 = true := by kernel_rfl
theorem bod92 : bodied Tryd.prog 92 = true := by kernel_rfl
theorem bod93 : bodied Tryd.prog 93 = true := by kernel_rfl
theorem bod94 : bodied Tryd.prog 94 = true := by kernel_rfl
theorem bod95 : bodied Tryd.prog 95 = true := by kernel_rfl
theorem bod96 : bodied Tryd.prog 96 = true := by kernel_rfl
theorem bod107 : bodied Tryd.prog 107 = true := by kernel_rfl
theorem bod108 : bodied Tryd.prog 108 = true := by kernel_rfl
theorem bod109 : bodied Tryd.prog 109 = true := by kernel_rfl
theorem bod118 : bodied Tryd.prog 118 = true := by kernel_rfl
theorem bod119 : bodied Tryd.prog 119 = true := by kernel_rfl
end Go.Proofs.YtafemfjhflfdeaaDoor.Tab
end
section
namespace Go.Proofs.YtafemfjhflfdeaaDoor
open Go Go.Proofs Go.Eng Tab
set_option maxRecDepth 100000
set_option linter.defProp false
def W1Fs67 := (And.intro (And.intro @agg3 @fo24_2) (And.intro @fo24_3 (And.intro @inf3 @sz3)))
structure MV where
  casts : List Int
  waits : List Int
  lo : Int
  hi : Int
  a : Option Addr
  b : Option Addr
  ca : Nat
  cb : Nat
abbrev MV.cells (m : MV) : List Value := [.slice m.a m.casts.length m.ca, .slice m.b m.waits.length m.cb, .int .i64 m.lo, .int .i64 m.hi]
abbrev MV.val (m : MV) : Value := .agg #[.slice m.a m.casts.length m.ca, .slice m.b m.waits.length m.cb, .int .i64 m.lo, .int .i64 m.hi]
structure MV.ok (m : MV) (h : Heap) : Prop where
  c : IntsV h m.a m.casts.length m.casts
  w : IntsV h m.b m.waits.length m.waits
  cl : m.casts.length ≤ 24
  wl : m.waits.length ≤ 24
theorem MV.ok.ext {m : MV} {h h' : Heap} (H : m.ok h) (x : Ext h h') : m.ok h' := ⟨H.c.ext x, H.w.ext x, H.cl, H.wl⟩
theorem can67 (m : MV) (x : Int) (h : Heap) :
    CallsH Tryd.prog 67 #[m.val, .int .i64 x] h (fun v h' => v = .bool (decide (m.lo ≤ x) && decide (x ≤ m.hi)) ∧ Ext h h') := by
  (refine CallsH_of_exec Tryd.func67 rfl bod67 ?_; simp only [Tryd.ntmps67, Tryd.results67, coreS, stK_some, splice, Value.cells, Value.oneCell', Nat.reduceAdd, Nat.reduceSub, Nat.reduceMul, Nat.reduceLeDiff, Int.reduceEq, Nat.reduceEqDiff, W1Fs67])
  constructor
  · intro h1; simp [h1, Ext.push, Ext.refl]
  · intro h1; simp [h1, Ext.push, Ext.refl]
end Go.Proofs.YtafemfjhflfdeaaDoor
end
section
namespace Go.Proofs.YtafemfjhflfdeaaDoor
open Go Go.Proofs Go.Eng Tab
set_option maxRecDepth 100000
set_option maxHeartbeats 1000000
set_option linter.defProp false
def W3Fs88 := (And.intro @agg3 (And.intro @inf3 @sz3))
def W3Fs107 := (And.intro (And.intro @agg3 @by3) (And.intro @inf3 (And.intro @sz3 @Tryd.underlying22)))
set_option pp.maxSteps 400
set_option pp.deepTerms false
theorem within88 (n lo hi : Int) (p q : Nat) (h : Heap) (hp : h[p]? = some (.cells #[.int .i64 lo] 3)) (hq : h[q]? = some (.cells #[.int .i64 hi] 3)) :
    CallsH Tryd.prog 88 (#[] ++ #[.int .i64 n] ++ #[.pointer (some ⟨p, 0, none⟩), .pointer (some ⟨q, 0, none⟩)]) h (fun v h' => v = .bool (decide (n < lo) || decide (hi < n)) ∧ Ext h h') := by
  simp only [Array.append_empty, Array.empty_append, List.append_toArray, List.cons_append, List.nil_append]
  (refine CallsH_of_exec Tryd.func88 rfl bod88 ?_; simp only [Tryd.ntmps88, Tryd.results88, coreS, stK_some, splice, Value.cells, Value.oneCell', Nat.reduceAdd, Nat.reduceSub, Nat.reduceMul, Nat.reduceLeDiff, Int.reduceEq, Nat.reduceEqDiff, W3Fs88])
  simp only [hp, hq, coreS, stK_some, splice, Value.cells, Value.oneCell', Nat.reduceAdd, Nat.reduceSub, Nat.reduceMul, Nat.reduceLeDiff, Int.reduceEq, Nat.reduceEqDiff, W3Fs88]
  constructor
  · intro h1; simp [h1, Ext.refl]
  · intro h1; simp [h1, Ext.refl]
def idx (p : Int → Bool) (xs : List Int) : Int := match xs.findIdx? p with | some i => i | none => -1
theorem idx_none {p : Int → Bool} {xs : List Int} (H : ∀ j < xs.length, p (xs.getD j 0) = false) : idx p xs = -1 := by
  have : xs.findIdx? p = none := by
    rw [List.findIdx?_eq_none_iff]
    intro x hx
    obtain ⟨j, hj, rfl⟩ := List.getElem_of_mem hx
    have := H j hj
    simpa [List.getD, List.getElem?_eq_getElem hj] using this
  simp [idx, this]
theorem idx_some {p : Int → Bool} {xs : List Int} {i : Nat} (hi : i < xs.length) (H : ∀ j < i, p (xs.getD j 0) = false) (hp : p (xs.getD i 0) = true) : idx p xs = i := by
  have : xs.findIdx? p = some i := by
    rw [List.findIdx?_eq_some_iff_getElem]
    refine ⟨hi, by simpa [List.getD, List.getElem?_eq_getElem hi] using hp, fun j hj => ?_⟩
    have hj' : j < xs.length := by omega
    have := H j hj
    simpa [List.getD, List.getElem?_eq_getElem hj'] using this
  simp [idx, this]
theorem indexFunc107 (a : Option Addr) (n c : Nat) (xs : List Int) (q : FuncId) (caps : Array Value) (p : Int → Bool) (h : Heap) (hs : IntsV h a n xs) (hl : n ≤ 1000000)
    (hq : ∀ x ∈ xs, ∀ h', Ext h h' → CallsH Tryd.prog q (#[] ++ #[.int .i64 x] ++ caps) h' (fun v h'' => v = .bool (p x) ∧ Ext h' h'')) :
    CallsH Tryd.prog 107 #[.slice a n c, .func (.func q) #[] caps] h (fun v h' => v = .int .i64 (idx p xs) ∧ Ext h h') := by
  have hn := hs.len
  (refine CallsH_of_exec Tryd.func107 rfl bod107 ?_; simp only [Tryd.ntmps107, Tryd.results107, coreS, stK_some, splice, Value.cells, Value.oneCell', Nat.reduceAdd, Nat.reduceSub, Nat.reduceMul, Nat.reduceLeDiff, Int.reduceEq, Nat.reduceEqDiff, W3Fs107])
  refine WP_loopI [4, 5, 8, 9, 10, 11, 12, 13, 14, 15, 16, 17, 18] (fun g h' => ∃ i : Nat, i ≤ n ∧ g 8 = .int .i64 i ∧ (∀ j < i, p (xs.getD j 0) = false) ∧ Ext h h') (fun g _ => match g 8 with | .int _ m => n - m.toNat | _ => 0) ?_ ?_
  · exact ⟨0, by omega, rfl, fun j hj => by omega, Ext.refl h⟩
  · intro g h' hI
    obtain ⟨i, hin, hg8, hno, hx⟩ := hI
    by_cases hi : i < xs.length
    · simp only [hg8, (hs.ext hx).cell hi, coreS, Value.cells, Value.oneCell', Nat.reduceAdd, Nat.reduceSub, Nat.reduceMul, Nat.reduceLeDiff, Int.reduceEq, Nat.reduceEqDiff, W3Fs107]
      refine ⟨fun hlt => ⟨⟨by omega, by omega⟩, (hs.ext hx).isSome (by omega), ?_⟩, fun hge => absurd hge (by omega)⟩
      have hmem : xs.getD i 0 ∈ xs := by simp [List.getD, List.getElem?_eq_getElem hi]
      refine CallsH.mono (hq _ hmem _ hx) ?_
      rintro v h2 ⟨rfl, hx2⟩
      cases hp : p (xs.getD i 0)
      · simp only [coreS, Value.cells, Value.oneCell', Nat.reduceAdd, Nat.reduceSub, Nat.reduceMul, Nat.reduceLeDiff, Int.reduceEq, Nat.reduceEqDiff, W3Fs107]
        refine ⟨by rw [inK_i64]; omega, roundK_mk (by kernel_rfl) ⟨i + 1, by omega, rfl, ?_, hx.trans hx2⟩ ?_⟩
        · intro j hj
          by_cases hji : j = i
          · subst hji; exact hp
          · exact hno j (by omega)
        · show n - ((i : Int) + 1).toNat < n - (i : Int).toNat
          omega
      · simp only [coreS, Value.cells, Value.oneCell', Nat.reduceAdd, Nat.reduceSub, Nat.reduceMul, Nat.reduceLeDiff, Int.reduceEq, Nat.reduceEqDiff, W3Fs107]
        exact ⟨by rw [idx_some hi hno hp], hx.trans hx2⟩
    · simp only [hg8, coreS, Value.cells, Value.oneCell', Nat.reduceAdd, Nat.reduceSub, Nat.reduceMul, Nat.reduceLeDiff, Int.reduceEq, Nat.reduceEqDiff, W3Fs107]
      refine ⟨fun hlt => absurd hlt (by omega), fun hge => ?_⟩
      exact ⟨by rw [idx_none fun j hj => hno j (by omega)], hx⟩
theorem containsFunc87 (a : Option Addr) (n c : Nat) (xs : List Int) (q : FuncId) (caps : Array Value) (p : Int → Bool) (h : Heap) (hs : IntsV h a n xs) (hl : n ≤ 1000000)
    (hq : ∀ x ∈ xs, ∀ h', Ext h h' → CallsH Tryd.prog q (#[] ++ #[.int .i64 x] ++ caps) h' (fun v h'' => v = .bool (p x) ∧ Ext h' h'')) :
    CallsH Tryd.prog 87 #[.slice a n c, .func (.func q) #[] caps] h (fun v h' => v = .bool (xs.any p) ∧ Ext h h') := by
  (refine CallsH_of_exec Tryd.func87 rfl bod87 ?_; simp only [Tryd.ntmps87, Tryd.results87, coreS, stK_some, splice, Value.cells, Value.oneCell', Nat.reduceAdd, Nat.reduceSub, Nat.reduceMul, Nat.reduceLeDiff, Int.reduceEq, Nat.reduceEqDiff])
  refine CallsH.mono (indexFunc107 a n c xs q caps p h hs hl hq) ?_
  rintro v h2 ⟨rfl, hx⟩
  simp only [coreS, Value.cells, Value.oneCell', Nat.reduceAdd, Nat.reduceSub, Nat.reduceMul, Nat.reduceLeDiff, Int.reduceEq, Nat.reduceEqDiff]
  refine ⟨?_, hx⟩
  congr 1
  unfold idx
  cases hf : xs.findIdx? p with
  | none =>
    rw [List.findIdx?_eq_none_iff] at hf
    have : xs.any p = false := by rw [List.any_eq_false]; intro x hx; simp [hf x hx]
    simp [this]
  | some i =>
    rw [List.findIdx?_eq_some_iff_getElem] at hf
    obtain ⟨hi, hp, _⟩ := hf
    have : xs.any p = true := by rw [List.any_eq_true]; exact ⟨xs[i], List.getElem_mem hi, hp⟩
    simp [this]
def inB (lo hi : Int) (xs : List Int) : Bool := xs.all fun x => decide (lo ≤ x) && decide (x ≤ hi)
theorem within62 (lo hi : Int) (a : Option Addr) (n c : Nat) (xs : List Int) (h : Heap) (hs : IntsV h a n xs) (hl : n ≤ 1000000) :
    CallsH Tryd.prog 62 #[.int .i64 lo, .int .i64 hi, .slice a n c] h (fun v h' => v = .bool (inB lo hi xs) ∧ Ext h h') := by
  (refine CallsH_of_exec Tryd.func62 rfl bod62 ?_; simp only [Tryd.ntmps62, Tryd.results62, coreS, stK_some, splice, Value.cells, Value.oneCell', Nat.reduceAdd, Nat.reduceSub, Nat.reduceMul, Nat.reduceLeDiff, Int.reduceEq, Nat.reduceEqDiff])
  refine CallsH.mono (containsFunc87 a n c xs 88 _ (fun x => decide (x < lo) || decide (hi < x)) _ ((hs.push _).push _) hl ?_) ?_
  · intro x _ h' hx
    exact within88 x lo hi _ _ h' (hx.get (by simp only [push_get, push_size, Nat.left_eq_add, Nat.succ_ne_self, if_false, if_true])) (hx.get (by simp only [push_get, push_size, if_true]))
  · rintro v h2 ⟨rfl, hx⟩
    simp only [coreS, Value.cells, Value.oneCell', Nat.reduceAdd, Nat.reduceSub, Nat.reduceMul, Nat.reduceLeDiff, Int.reduceEq, Nat.reduceEqDiff]
    refine ⟨?_, hx.of_push.of_push⟩
    congr 1
    simp only [inB, List.not_any_eq_all_not]
    congr 1
    funext x
    by_cases h1 : x < lo <;> by_cases h2 : hi < x <;> simp [h1, h2, Int.not_lt.1, Int.not_le] <;> omega
end Go.Proofs.YtafemfjhflfdeaaDoor
end
section
namespace Go.Proofs.YtafemfjhflfdeaaDoor
open Go Go.Proofs Go.Eng Tab
set_option maxRecDepth 100000
set_option maxHeartbeats 1000000
set_option linter.defProp false
def W4Fs63 := (And.intro (And.intro @agg3 @by3) (And.intro @inf3 (And.intro @sz3 @Tryd.underlying22)))
set_option pp.maxSteps 400
set_option pp.deepTerms false
theorem isNaN108 (x : Int) (h : Heap) : CallsH Tryd.prog 108 #[.int .i64 x] h (fun v h' => v = .bool false ∧ h' = h) := by
  (refine CallsH_of_exec Tryd.func108 rfl bod108 ?_; simp only [Tryd.ntmps108, Tryd.results108, coreS, stK_some, splice, Value.cells, Value.oneCell', Nat.reduceAdd, Nat.reduceSub, Nat.reduceMul, Nat.reduceLeDiff, Int.reduceEq, Nat.reduceEqDiff])
  simp
theorem less89 (x y : Int) (h : Heap) : CallsH Tryd.prog 89 #[.int .i64 x, .int .i64 y] h (fun v h' => v = .bool (decide (x < y)) ∧ h' = h) := by
  (refine CallsH_of_exec Tryd.func89 rfl bod89 ?_; simp only [Tryd.ntmps89, Tryd.results89, coreS, stK_some, splice, Value.cells, Value.oneCell', Nat.reduceAdd, Nat.reduceSub, Nat.reduceMul, Nat.reduceLeDiff, Int.reduceEq, Nat.reduceEqDiff])
  refine CallsH.mono (isNaN108 ..) ?_
  rintro v h2 ⟨rfl, rfl⟩
  simp only [coreS, Value.cells, Value.oneCell', Nat.reduceAdd, Nat.reduceSub, Nat.reduceMul, Nat.reduceLeDiff, Int.reduceEq, Nat.reduceEqDiff]
def sortedTo (xs : List Int) (i : Nat) : Prop := ∀ j, i ≤ j → j + 1 < xs.length → xs.getD j 0 ≤ xs.getD (j + 1) 0
instance (xs : List Int) : Decidable (sortedTo xs 0) := decidable_of_iff (∀ j < xs.length, j + 1 < xs.length → xs.getD j 0 ≤ xs.getD (j + 1) 0) ⟨fun H j _ hj => H j (by omega) hj, fun H j _ hj => H j (by omega) hj⟩
theorem isSorted63 (a : Option Addr) (n c : Nat) (xs : List Int) (h : Heap) (hs : IntsV h a n xs) (hl : n ≤ 1000000) :
    CallsH Tryd.prog 63 #[.slice a n c] h (fun v h' => v = .bool (decide (sortedTo xs 0)) ∧ h' = h) := by
  have hn := hs.len
  (refine CallsH_of_exec Tryd.func63 rfl bod63 ?_; simp only [Tryd.ntmps63, Tryd.results63, coreS, stK_some, splice, Value.cells, Value.oneCell', Nat.reduceAdd, Nat.reduceSub, Nat.reduceMul, Nat.reduceLeDiff, Int.reduceEq, Nat.reduceEqDiff, W4Fs63])
  refine ⟨by rw [inK_i64]; omega, ?_⟩
  refine WP_loopI [2, 3, 7, 8, 9, 10, 11, 12, 13, 14, 15, 16, 17, 18, 19, 20] (fun g h' => h' = h ∧ ∃ i : Int, g 3 = .int .i64 i ∧ -1 ≤ i ∧ i < n ∧ sortedTo xs i.toNat) (fun g _ => match g 3 with | .int _ m => m.toNat | _ => 0) ?_ ?_
  · exact ⟨rfl, (n : Int) - 1, rfl, by omega, by omega, fun j h1 h2 => by omega⟩
  · intro g h' hI
    obtain ⟨rfl, i, hg3, h1, h2, h3⟩ := hI
    by_cases hi : 0 < i
    · simp only [hg3, coreS, Value.cells, Value.oneCell', Nat.reduceAdd, Nat.reduceSub, Nat.reduceMul, Nat.reduceLeDiff, Int.reduceEq, Nat.reduceEqDiff, W4Fs63]
      refine ⟨fun _ => ?_, fun hc => absurd hi hc⟩
      refine WP_draw (by kernel_rfl) sta_eq [(0, 0), (1, 0), (2, 0), (3, 0), (4, 0), (5, 0), (6, 0), (7, 0), (8, 0), (9, 0)] (by kernel_rfl) rfl (by kernel_rfl) ?_
      have e1 : i.toNat < xs.length := by omega
      have e2 : (i - 1).toNat < xs.length := by omega
      simp only [hs.cell e1, hs.cell e2, coreS, Value.cells, Value.oneCell', Nat.reduceAdd, Nat.reduceSub, Nat.reduceMul, Nat.reduceLeDiff, Int.reduceEq, Nat.reduceEqDiff, drawS, W4Fs63]
      refine ⟨⟨by omega, by omega⟩, hs.isSome (by omega), by rw [inK_i64]; omega, ⟨by omega, by omega⟩, hs.isSome (by omega), ?_⟩
      refine cQ_eq _ (less89 ..) ?_
      have e3 : (i - 1).toNat + 1 = i.toNat := by omega
      simp only [coreS, Value.cells, Value.oneCell', Nat.reduceAdd, Nat.reduceSub, Nat.reduceMul, Nat.reduceLeDiff, Int.reduceEq, Nat.reduceEqDiff, drawS, W4Fs63]
      refine ⟨fun hlt => ?_, fun hge => ?_⟩
      · have : ¬ sortedTo xs 0 := fun H => by
          have := H (i - 1).toNat (by omega) (by omega)
          rw [e3] at this
          omega
        simp [this]
      · refine ⟨by rw [inK_i64]; omega, roundK_mk (by kernel_rfl) ⟨rfl, i - 1, rfl, by omega, by omega, ?_⟩ ?_⟩
        · intro j h5 h6
          by_cases hj : j = (i - 1).toNat
          · subst hj; rw [e3]; omega
          · exact h3 j (by omega) h6
        · show (i - 1).toNat < i.toNat
          omega
    · simp only [hg3, coreS, Value.cells, Value.oneCell', Nat.reduceAdd, Nat.reduceSub, Nat.reduceMul, Nat.reduceLeDiff, Int.reduceEq, Nat.reduceEqDiff, W4Fs63]
      refine ⟨fun hc => absurd hc hi, fun _ => ?_⟩
      have : i.toNat = 0 := by omega
      rw [this] at h3
      simp [h3]
end Go.Proofs.YtafemfjhflfdeaaDoor
end
section
namespace Go.Proofs.YtafemfjhflfdeaaDoor
set_option linter.unusedSimpArgs false
set_option linter.unusedVariables false
structure OV where
  n : Nat
  c : Nat → Nat
  w : Nat → Nat
  lo : Nat
  hi : Nat
structure OV.ok (o : OV) : Prop where
  n1 : 1 ≤ o.n
  n16 : o.n ≤ 16
  cg : ∀ i, i < o.n → i ≤ o.c i
  cl : ∀ i, i < o.n → o.c i < o.n
  wg : ∀ i, i < o.n → o.w i ≤ i
  cm : ∀ i j, i ≤ j → j < o.n → o.c i ≤ o.c j
  wm : ∀ i j, i ≤ j → j < o.n → o.w i ≤ o.w j
  lh : o.lo ≤ o.hi
  hl : o.hi < o.n
namespace OV
variable {o : OV}
abbrev Sp := Nat × Nat
def can (o : OV) (s : Sp) : Bool := decide (o.lo ≤ s.1) && decide (s.2 ≤ o.hi)
def C (o : OV) (s : Sp) : Sp := (o.c s.1, o.c s.2)
def W (o : OV) (s : Sp) : Sp := (o.w s.1, o.w s.2)
def In (o : OV) (s : Sp) : Prop := s.1 < o.n ∧ s.2 < o.n
theorem In.c (ok : o.ok) {s : Sp} (h : o.In s) : o.In (o.C s) := ⟨ok.cl _ h.1, ok.cl _ h.2⟩
theorem In.w (ok : o.ok) {s : Sp} (h : o.In s) : o.In (o.W s) := ⟨Nat.lt_of_le_of_lt (ok.wg _ h.1) h.1, Nat.lt_of_le_of_lt (ok.wg _ h.2) h.2⟩
theorem W_le (ok : o.ok) {s : Sp} (h : o.In s) : (o.W s).1 ≤ s.1 ∧ (o.W s).2 ≤ s.2 := ⟨ok.wg _ h.1, ok.wg _ h.2⟩
theorem W_lt (ok : o.ok) {s : Sp} (h : o.In s) (hw : o.W s ≠ s) : (o.W s).1 + (o.W s).2 < s.1 + s.2 := by
  have := W_le ok h
  by_cases h1 : (o.W s).1 = s.1
  · by_cases h2 : (o.W s).2 = s.2
    · exact absurd (Prod.ext h1 h2) hw
    · omega
  · omega
def step (o : OV) (s : Sp) (b : Bool) : Option Sp := if b then (if o.can s then some (o.C s) else none) else some (o.W s)
def run (o : OV) : Sp → List Bool → Option Sp
  | s, [] => some s
  | s, b :: p => (o.step s b).bind fun t => o.run t p
theorem run_cons (s : Sp) (b : Bool) (p : List Bool) : o.run s (b :: p) = (o.step s b).bind fun t => o.run t p := rfl
theorem run_append : ∀ (s : Sp) (p q : List Bool), o.run s (p ++ q) = (o.run s p).bind fun t => o.run t q
  | s, [], q => rfl
  | s, b :: p, q => by
    rw [List.cons_append, run_cons, run_cons]
    cases o.step s b with
    | none => rfl
    | some t => exact run_append t p q
theorem in_run (ok : o.ok) : ∀ {s t : Sp} {p : List Bool}, o.In s → o.run s p = some t → o.In t
  | s, t, [], h, hr => by cases hr; exact h
  | s, t, b :: p, h, hr => by
    rw [run_cons] at hr
    cases hs : o.step s b with
    | none => rw [hs] at hr; cases hr
    | some u =>
      rw [hs] at hr
      refine in_run ok ?_ hr
      unfold step at hs
      split at hs
      · split at hs
        · cases hs; exact h.c ok
        · cases hs
      · cases hs; exact h.w ok
theorem run_one : ∀ (i : Nat) (p : List Bool) (t : Sp), o.run (i, i) p = some t → t.1 = t.2
  | i, [], t, h => by cases h; rfl
  | i, b :: p, t, h => by
    rw [run_cons] at h
    cases hs : o.step (i, i) b with
    | none => rw [hs] at h; cases h
    | some u =>
      rw [hs] at h
      unfold step at hs
      split at hs
      · split at hs
        · cases hs; exact run_one _ p t h
        · cases hs
      · cases hs; exact run_one _ p t h
def casts (p : List Bool) : Nat := p.count true
theorem casts_cons (b : Bool) (p : List Bool) : casts (b :: p) = casts p + if b then 1 else 0 := by cases b <;> simp [casts]
theorem casts_append (p q : List Bool) : casts (p ++ q) = casts p + casts q := by simp [casts]
theorem casts_le (p : List Bool) : casts p ≤ p.length := List.count_le_length
def better : Option Nat → Option Nat → Option Nat
  | some x, some y => some (if y < x then y else x)
  | some x, none => some x
  | none, b => b
def nx (o : OV) (p : Sp → Option Nat) : Nat → Sp → Option Nat
  | 0, s => if o.can s then p (o.C s) else none
  | f + 1, s => better (if o.can s then p (o.C s) else none) (if o.W s = s then none else (nx o p f (o.W s)).map (· + 1))
def lw (o : OV) : Nat → Sp → Option Nat
  | 0, _ => some 0
  | k + 1, s => nx o (o.lw k) (s.1 + s.2) s
theorem better_none (a : Option Nat) : better a none = a := by cases a <;> rfl
theorem nx_fuel (ok : o.ok) (p : Sp → Option Nat) : ∀ (m f g : Nat) (s : Sp), o.In s → s.1 + s.2 ≤ m → s.1 + s.2 ≤ f → s.1 + s.2 ≤ g → nx o p f s = nx o p g s := by
  intro m
  induction m with
  | zero =>
    intro f g s h hm hf hg
    have hw : o.W s = s := by
      have := W_le ok h
      exact Prod.ext (by omega) (by omega)
    have key : ∀ f, nx o p f s = if o.can s then p (o.C s) else none := fun f => by
      cases f with
      | zero => rfl
      | succ f => rw [nx, if_pos hw, better_none]
    rw [key, key]
  | succ m ih =>
    intro f g s h hm hf hg
    by_cases hw : o.W s = s
    · have key : ∀ f, nx o p f s = if o.can s then p (o.C s) else none := fun f => by
        cases f with
        | zero => rfl
        | succ f => rw [nx, if_pos hw, better_none]
      rw [key, key]
    · have hlt := W_lt ok h hw
      cases f with
      | zero => omega
      | succ f =>
        cases g with
        | zero => omega
        | succ g => rw [nx, nx, ih f g (o.W s) (h.w ok) (by omega) (by omega) (by omega)]
theorem lw_zero (s : Sp) : o.lw 0 s = some 0 := rfl
theorem lw_succ (ok : o.ok) {s : Sp} (h : o.In s) (k : Nat) : o.lw (k + 1) s = better (if o.can s then o.lw k (o.C s) else none) (if o.W s = s then none else (o.lw (k + 1) (o.W s)).map (· + 1)) := by
  by_cases hw : o.W s = s
  · rw [if_pos hw, better_none, lw]
    cases hm : s.1 + s.2 with
    | zero => rfl
    | succ f => rw [nx, if_pos hw, better_none]
  · have hlt := W_lt ok h hw
    rw [if_neg hw, lw, lw]
    cases hm : s.1 + s.2 with
    | zero => omega
    | succ f => rw [nx, if_neg hw, nx_fuel ok _ f f ((o.W s).1 + (o.W s).2) (o.W s) (h.w ok) (by omega) (by omega) (Nat.le_refl _)]
def first (o : OV) (k : Nat) (s : Sp) : Bool := match (if o.can s then o.lw k (o.C s) else none), (if o.W s = s then none else (o.lw (k + 1) (o.W s)).map (· + 1)) with
  | some x, some y => !decide (y < x)
  | some _, none => true
  | none, _ => false
theorem first_true (ok : o.ok) {s : Sp} (h : o.In s) {k : Nat} (hf : o.first k s = true) : o.can s = true ∧ o.lw (k + 1) s = o.lw k (o.C s) ∧ (o.lw k (o.C s)).isSome := by
  rw [lw_succ ok h]
  unfold first at hf
  by_cases hc : o.can s = true
  · simp only [hc, if_true] at hf ⊢
    cases hx : o.lw k (o.C s) with
    | none => rw [hx] at hf; simp at hf
    | some x =>
      rw [hx] at hf
      cases hy : (if o.W s = s then none else (o.lw (k + 1) (o.W s)).map (· + 1)) with
      | none => simp [better]
      | some y =>
        rw [hy] at hf
        simp at hf
        simp [better]; omega
  · simp only [hc] at hf
    simp at hf
theorem first_false (ok : o.ok) {s : Sp} (h : o.In s) {k : Nat} (hf : o.first k s = false) {x : Nat} (hx : o.lw (k + 1) s = some x) : o.W s ≠ s ∧ ∃ y, x = y + 1 ∧ o.lw (k + 1) (o.W s) = some y := by
  rw [lw_succ ok h] at hx
  unfold first at hf
  by_cases hw : o.W s = s
  · simp only [hw, if_true] at hf hx
    rw [better_none] at hx
    rw [hx] at hf
    simp at hf
  · refine ⟨hw, ?_⟩
    simp only [hw, if_false] at hf hx
    cases hy : o.lw (k + 1) (o.W s) with
    | none =>
      rw [hy] at hf hx
      simp only [Option.map_none] at hf hx
      rw [better_none] at hx
      rw [hx] at hf
      simp at hf
    | some y =>
      rw [hy] at hf hx
      simp only [Option.map_some] at hf hx
      cases hz : (if o.can s = true then o.lw k (o.C s) else none) with
      | none =>
        rw [hz] at hx
        simp only [better, Option.some.injEq] at hx
        exact ⟨y, hx.symm, rfl⟩
      | some z =>
        rw [hz] at hf hx
        simp at hf
        simp only [better, Option.some.injEq] at hx
        rw [if_pos hf] at hx
        exact ⟨y, hx.symm, rfl⟩
def plK (o : OV) (k : Nat) (q : Sp → List Bool) : Nat → Sp → List Bool
  | 0, s => if o.first k s then true :: q (o.C s) else []
  | f + 1, s => if o.first k s then true :: q (o.C s) else false :: plK o k q f (o.W s)
def pl (o : OV) : Nat → Sp → List Bool
  | 0, _ => []
  | k + 1, s => plK o k (o.pl k) (s.1 + s.2) s
theorem plK_fuel (ok : o.ok) (k : Nat) (q : Sp → List Bool) : ∀ (m f g : Nat) (s : Sp), o.In s → s.1 + s.2 ≤ m → s.1 + s.2 ≤ f → s.1 + s.2 ≤ g → (o.lw (k + 1) s).isSome → plK o k q f s = plK o k q g s := by
  intro m
  induction m with
  | zero =>
    intro f g s h hm hf hg hs
    obtain ⟨x, hx⟩ := Option.isSome_iff_exists.1 hs
    have hw : o.W s = s := by
      have := W_le ok h
      exact Prod.ext (by omega) (by omega)
    cases hb : o.first k s with
    | true =>
      have key : ∀ f, plK o k q f s = true :: q (o.C s) := fun f => by cases f <;> simp [plK, hb]
      rw [key, key]
    | false => exact absurd hw (first_false ok h hb hx).1
  | succ m ih =>
    intro f g s h hm hf hg hs
    obtain ⟨x, hx⟩ := Option.isSome_iff_exists.1 hs
    cases hb : o.first k s with
    | true =>
      have key : ∀ f, plK o k q f s = true :: q (o.C s) := fun f => by cases f <;> simp [plK, hb]
      rw [key, key]
    | false =>
      obtain ⟨hw, y, _, hy⟩ := first_false ok h hb hx
      have hlt := W_lt ok h hw
      cases f with
      | zero => omega
      | succ f =>
        cases g with
        | zero => omega
        | succ g => simp only [plK, hb, Bool.false_eq_true, if_false]; rw [ih f g (o.W s) (h.w ok) (by omega) (by omega) (by omega) (by rw [hy]; rfl)]
theorem pl_true (ok : o.ok) {s : Sp} (h : o.In s) {k : Nat} (hb : o.first k s = true) : o.pl (k + 1) s = true :: o.pl k (o.C s) := by
  rw [pl]
  cases s.1 + s.2 <;> simp [plK, hb]
theorem pl_false (ok : o.ok) {s : Sp} (h : o.In s) {k : Nat} (hb : o.first k s = false) (hs : (o.lw (k + 1) s).isSome) : o.pl (k + 1) s = false :: o.pl (k + 1) (o.W s) := by
  obtain ⟨x, hx⟩ := Option.isSome_iff_exists.1 hs
  obtain ⟨hw, y, _, hy⟩ := first_false ok h hb hx
  have hlt := W_lt ok h hw
  rw [pl, pl]
  cases hm : s.1 + s.2 with
  | zero => omega
  | succ f =>
    simp only [plK, hb, Bool.false_eq_true, if_false]
    rw [plK_fuel ok k _ f f ((o.W s).1 + (o.W s).2) (o.W s) (h.w ok) (by omega) (by omega) (Nat.le_refl _) (by rw [hy]; rfl)]
theorem pl_rec (ok : o.ok) {P : Nat → Sp → Nat → Prop} (h0 : ∀ s, o.In s → P 0 s 0)
    (hc : ∀ k s x, o.In s → o.can s = true → o.first k s = true → o.lw (k + 1) s = some x → o.lw k (o.C s) = some x → P k (o.C s) x → P (k + 1) s x)
    (hw : ∀ k s x, o.In s → o.W s ≠ s → o.first k s = false → o.lw (k + 1) s = some (x + 1) → o.lw (k + 1) (o.W s) = some x → P (k + 1) (o.W s) x → P (k + 1) s (x + 1)) :
    ∀ (k : Nat) (s : Sp) (x : Nat), o.In s → o.lw k s = some x → P k s x := by
  intro k
  induction k with
  | zero =>
    intro s x h hx
    rw [lw_zero] at hx
    cases hx
    exact h0 s h
  | succ k ih =>
    have key : ∀ (m : Nat) (s : Sp) (x : Nat), s.1 + s.2 ≤ m → o.In s → o.lw (k + 1) s = some x → P (k + 1) s x := by
      intro m
      induction m with
      | zero =>
        intro s x hm h hx
        cases hb : o.first k s with
        | true =>
          obtain ⟨h1, h2, h3⟩ := first_true ok h hb
          rw [hx] at h2
          exact hc k s x h h1 hb hx h2.symm (ih _ _ (h.c ok) h2.symm)
        | false =>
          obtain ⟨hne, y, rfl, hy⟩ := first_false ok h hb hx
          have := W_lt ok h hne
          omega
      | succ m ihm =>
        intro s x hm h hx
        cases hb : o.first k s with
        | true =>
          obtain ⟨h1, h2, h3⟩ := first_true ok h hb
          rw [hx] at h2
          exact hc k s x h h1 hb hx h2.symm (ih _ _ (h.c ok) h2.symm)
        | false =>
          obtain ⟨hne, y, rfl, hy⟩ := first_false ok h hb hx
          have := W_lt ok h hne
          exact hw k s y h hne hb hx hy (ihm _ _ (by omega) (h.w ok) hy)
    exact fun s x h hx => key (s.1 + s.2) s x (Nat.le_refl _) h hx
theorem pl_run (ok : o.ok) {k : Nat} {s : Sp} {x : Nat} (h : o.In s) (hx : o.lw k s = some x) : (∃ t, o.run s (o.pl k s) = some t) ∧ casts (o.pl k s) = k ∧ (o.pl k s).length = k + x := by
  refine pl_rec ok (P := fun k s x => (∃ t, o.run s (o.pl k s) = some t) ∧ casts (o.pl k s) = k ∧ (o.pl k s).length = k + x) ?_ ?_ ?_ k s x h hx
  · intro s h; exact ⟨⟨s, rfl⟩, rfl, rfl⟩
  · rintro k s x h hc hb h1 h2 ⟨⟨t, ht⟩, h4, h5⟩
    rw [pl_true ok h hb]
    refine ⟨⟨t, ?_⟩, by rw [casts_cons, h4]; rfl, by rw [List.length_cons, h5]; omega⟩
    rw [run_cons, step, if_pos rfl, if_pos hc]
    exact ht
  · rintro k s x h hw hb h1 h2 ⟨⟨t, ht⟩, h4, h5⟩
    rw [pl_false ok h hb (by rw [h1]; rfl)]
    refine ⟨⟨t, ?_⟩, by rw [casts_cons, h4]; rfl, by rw [List.length_cons, h5]; omega⟩
    rw [run_cons, step, if_neg (by simp)]
    exact ht
theorem lw_least (ok : o.ok) : ∀ (p : List Bool) {s t : Sp}, o.In s → o.run s p = some t → ∃ x, o.lw (casts p) s = some x ∧ x + casts p ≤ p.length
  | [], s, t, h, hr => ⟨0, rfl, by simp [casts]⟩
  | true :: p, s, t, h, hr => by
    rw [run_cons, step, if_pos rfl] at hr
    split at hr
    · rename_i hc
      obtain ⟨x, hx, hl⟩ := lw_least ok p (h.c ok) hr
      have e : casts (true :: p) = casts p + 1 := casts_cons _ _
      rw [e, lw_succ ok h, if_pos hc, hx, List.length_cons]
      cases (if o.W s = s then none else (o.lw (casts p + 1) (o.W s)).map (· + 1)) with
      | none => exact ⟨x, rfl, by omega⟩
      | some y => exact ⟨_, rfl, by split <;> omega⟩
    · cases hr
  | false :: p, s, t, h, hr => by
    rw [run_cons, step, if_neg (by simp)] at hr
    obtain ⟨x, hx, hl⟩ := lw_least ok p (h.w ok) hr
    have e : casts (false :: p) = casts p := casts_cons _ _
    rw [e, List.length_cons]
    by_cases hw : o.W s = s
    · rw [hw] at hx; exact ⟨x, hx, by omega⟩
    · cases hk : casts p with
      | zero => exact ⟨0, rfl, by omega⟩
      | succ k =>
        rw [hk] at hx hl
        rw [lw_succ ok h, if_neg hw, hx, Option.map_some]
        cases (if o.can s then o.lw k (o.C s) else none) with
        | none => exact ⟨x + 1, rfl, by omega⟩
        | some y => exact ⟨_, rfl, by split <;> omega⟩
end OV
end Go.Proofs.YtafemfjhflfdeaaDoor
end
section
namespace Go.Proofs.YtafemfjhflfdeaaDoor
set_option linter.unusedSimpArgs false
set_option linter.unusedVariables false
namespace OV
variable {o : OV}
theorem cut_casts : ∀ (p : List Bool) (j : Nat), j ≤ casts p → ∃ q r, p = q ++ r ∧ casts q = j
  | [], j, h => ⟨[], [], rfl, by simp [casts] at h ⊢; omega⟩
  | b :: p, j, h => by
    rw [casts_cons] at h
    cases b with
    | false =>
      obtain ⟨q, r, rfl, hq⟩ := cut_casts p j (by simpa using h)
      exact ⟨false :: q, r, rfl, by rw [casts_cons, hq]; rfl⟩
    | true =>
      cases j with
      | zero => exact ⟨[], true :: p, rfl, rfl⟩
      | succ j =>
        obtain ⟨q, r, rfl, hq⟩ := cut_casts p j (by simp at h; omega)
        exact ⟨true :: q, r, rfl, by rw [casts_cons, hq]; rfl⟩
theorem run_split {s t : Sp} {p q : List Bool} (h : o.run s (p ++ q) = some t) : ∃ u, o.run s p = some u ∧ o.run u q = some t := by
  rw [run_append] at h
  cases hp : o.run s p with
  | none => rw [hp] at h; cases h
  | some u => rw [hp] at h; exact ⟨u, rfl, h⟩
theorem run_join {s u t : Sp} {p q : List Bool} (h1 : o.run s p = some u) (h2 : o.run u q = some t) : o.run s (p ++ q) = some t := by rw [run_append, h1]; exact h2
theorem lw_mono (ok : o.ok) {k j : Nat} {s : Sp} {x : Nat} (h : o.In s) (hx : o.lw k s = some x) (hj : j ≤ k) : ∃ y, o.lw j s = some y ∧ y ≤ x := by
  obtain ⟨⟨t, ht⟩, h1, h2⟩ := pl_run ok h hx
  obtain ⟨q, r, hp, hq⟩ := cut_casts (o.pl k s) j (by omega)
  rw [hp] at ht h1 h2
  obtain ⟨u, hu, hr⟩ := run_split ht
  obtain ⟨y, hy, hl⟩ := lw_least ok q h hu
  rw [hq] at hy hl
  have h3 := casts_le r
  rw [casts_append, hq] at h1
  rw [List.length_append] at h2
  exact ⟨y, hy, by omega⟩
theorem nodup_bound : ∀ (n : Nat) (l : List Nat), (∀ x ∈ l, x < n) → l.Nodup → l.length ≤ n
  | 0, l, h, _ => by
    cases l with
    | nil => simp
    | cons x l => exact absurd (h x (by simp)) (by omega)
  | n + 1, l, h, hn => by
    have h1 := nodup_bound n (l.erase n) (fun x hx => by
      have := (List.Nodup.mem_erase_iff hn).1 hx
      have := h x this.2
      omega) (hn.erase n)
    have := List.length_erase (a := n) (l := l)
    split at this <;> omega
theorem pigeon (n : Nat) (f : Nat → Nat) (h : ∀ i, i ≤ n → f i < n) : ∃ i j, i < j ∧ j ≤ n ∧ f i = f j := by
  refine Classical.byContradiction fun hno => ?_
  have h1 := nodup_bound n ((List.range (n + 1)).map f) (fun x hx => by
    obtain ⟨i, hi, rfl⟩ := List.mem_map.1 hx
    exact h i (by have := List.mem_range.1 hi; omega)) (by
    rw [List.Nodup, List.pairwise_iff_getElem]
    intro i j hi hj hij he
    simp only [List.length_map, List.length_range] at hi hj
    simp only [List.getElem_map, List.getElem_range] at he
    exact hno ⟨i, j, hij, by omega, he⟩)
  simp at h1
  omega
theorem twice (ok : o.ok) {i : Nat} {p : List Bool} {t : Sp} (hi : i < o.n) (hr : o.run (i, i) p = some t) (hc : o.n ≤ casts p) : ∃ a b c, p = a ++ b ++ c ∧ 1 ≤ casts b ∧ casts b ≤ o.n ∧ ∃ u, o.run (i, i) a = some (u, u) ∧ o.run (u, u) b = some (u, u) := by
  have ex : ∀ j, ∃ m, j ≤ o.n → casts (p.take m) = j ∧ m ≤ p.length := fun j => by
    by_cases hj : j ≤ o.n
    · obtain ⟨q, r, rfl, hq⟩ := cut_casts p j (by omega)
      exact ⟨q.length, fun _ => ⟨by rw [List.take_left']; exact hq; rfl, by simp⟩⟩
    · exact ⟨0, fun h => absurd h hj⟩
  obtain ⟨m, hm⟩ := Classical.axiomOfChoice ex
  have run_take : ∀ k, ∃ u, u < o.n ∧ o.run (i, i) (p.take k) = some (u, u) := fun k => by
    have h1 := hr
    rw [← List.take_append_drop k p] at h1
    obtain ⟨u, hu, _⟩ := run_split h1
    have h2 := run_one i _ u hu
    have h3 := in_run ok (s := (i, i)) ⟨hi, hi⟩ hu
    exact ⟨u.1, h3.1, by rw [hu]; congr 1; exact Prod.ext rfl h2.symm⟩
  obtain ⟨g, hg⟩ := Classical.axiomOfChoice run_take
  obtain ⟨x, y, hxy, hy, he⟩ := pigeon o.n (fun j => g (m j)) fun j hj => (hg (m j)).1
  have hx1 := hm x (by omega)
  have hy1 := hm y hy
  have hle : m x ≤ m y := by
    refine Classical.byContradiction fun hh => ?_
    have h1 : p.take (m y) = (p.take (m x)).take (m y) := by rw [List.take_take, Nat.min_eq_left (by omega)]
    have h2 : casts (p.take (m x)) = casts ((p.take (m x)).take (m y)) + casts ((p.take (m x)).drop (m y)) := by rw [← casts_append, List.take_append_drop]
    rw [← h1] at h2
    omega
  have h1 : p.take (m y) = p.take (m x) ++ (p.take (m y)).drop (m x) := by
    have := (List.take_append_drop (m x) (p.take (m y))).symm
    rw [List.take_take, Nat.min_eq_left hle] at this
    exact this
  have h2 : casts ((p.take (m y)).drop (m x)) = y - x := by
    have := congrArg casts h1
    rw [casts_append] at this
    omega
  refine ⟨p.take (m x), (p.take (m y)).drop (m x), p.drop (m y), ?_, by omega, by omega, g (m x), (hg (m x)).2, ?_⟩
  · rw [← h1, List.take_append_drop]
  · have h3 := (hg (m y)).2
    rw [h1] at h3
    obtain ⟨u, hu, hv⟩ := run_split h3
    rw [(hg (m x)).2] at hu
    cases hu
    rw [hv]
    show some (g (m y), g (m y)) = _
    have he : g (m x) = g (m y) := he
    rw [← he]
def rep (b : List Bool) : Nat → List Bool
  | 0 => []
  | k + 1 => b ++ rep b k
theorem rep_casts (b : List Bool) : ∀ k, casts (rep b k) = k * casts b
  | 0 => by simp [rep, casts]
  | k + 1 => by rw [rep, casts_append, rep_casts b k, Nat.succ_mul]; omega
theorem rep_run {u : Sp} {b : List Bool} (h : o.run u b = some u) : ∀ k, o.run u (rep b k) = some u
  | 0 => rfl
  | k + 1 => run_join h (rep_run h k)
theorem lw_any (ok : o.ok) {i : Nat} (hi : i < o.n) (h : (o.lw o.n (i, i)).isSome) (k : Nat) : ∃ x, o.lw k (i, i) = some x := by
  obtain ⟨x, hx⟩ := Option.isSome_iff_exists.1 h
  have hin : o.In (i, i) := ⟨hi, hi⟩
  obtain ⟨⟨t, ht⟩, h1, _⟩ := pl_run ok hin hx
  obtain ⟨a, b, c, _, hb, _, u, hu, hv⟩ := twice ok hi ht (by omega)
  obtain ⟨y, hy, _⟩ := lw_least ok _ hin (run_join hu (rep_run hv k))
  obtain ⟨z, hz, _⟩ := lw_mono ok hin hy (j := k) (by
    rw [casts_append, rep_casts]
    have : k * 1 ≤ k * casts b := Nat.mul_le_mul_left k hb
    omega)
  exact ⟨z, hz⟩
def mostF (o : OV) (s : Sp) : Nat → Nat → Option Nat
  | 0, _ => none
  | f + 1, k => if (o.lw (k + 1) s).isNone then some k else mostF o s f (k + 1)
def most (o : OV) (i : Nat) : Option Nat := o.mostF (i, i) (o.n + 1) 0
theorem mostF_spec (s : Sp) : ∀ (f k : Nat), (∀ j, j ≤ k → (o.lw j s).isSome) → match o.mostF s f k with
    | some m => k ≤ m ∧ m < k + f ∧ o.lw (m + 1) s = none ∧ ∀ j, j ≤ m → (o.lw j s).isSome
    | none => ∀ j, j ≤ k + f → (o.lw j s).isSome
  | 0, k, h => h
  | f + 1, k, h => by
    rw [mostF]
    by_cases hn : (o.lw (k + 1) s).isNone
    · rw [if_pos hn]
      exact ⟨Nat.le_refl _, by omega, by simpa using hn, h⟩
    · rw [if_neg hn]
      have := mostF_spec s f (k + 1) fun j hj => by
        by_cases h1 : j = k + 1
        · subst h1; simpa [Option.isSome_iff_ne_none] using hn
        · exact h j (by omega)
      cases hm : o.mostF s f (k + 1) with
      | some m => rw [hm] at this; simp only at this ⊢; exact ⟨by omega, by omega, this.2.2⟩
      | none => rw [hm] at this; simp only at this ⊢; exact fun j hj => this j (by omega)
theorem most_some {i m : Nat} (h : o.most i = some m) : m ≤ o.n ∧ o.lw (m + 1) (i, i) = none ∧ ∀ j, j ≤ m → (o.lw j (i, i)).isSome := by
  have := mostF_spec (o := o) (i, i) (o.n + 1) 0 fun j hj => by rw [Nat.le_zero.1 hj]; rfl
  rw [show o.mostF (i, i) (o.n + 1) 0 = some m from h] at this
  exact ⟨by have := this.2.1; omega, this.2.2⟩
theorem most_none (ok : o.ok) {i : Nat} (hi : i < o.n) (h : o.most i = none) (k : Nat) : ∃ x, o.lw k (i, i) = some x := by
  have := mostF_spec (o := o) (i, i) (o.n + 1) 0 fun j hj => by rw [Nat.le_zero.1 hj]; rfl
  rw [show o.mostF (i, i) (o.n + 1) 0 = none from h] at this
  exact lw_any ok hi (this o.n (by omega)) k
end OV
end Go.Proofs.YtafemfjhflfdeaaDoor
end
section
namespace Go.Proofs.YtafemfjhflfdeaaDoor
open Go Go.Proofs Go.Eng Tab
set_option maxRecDepth 100000
set_option maxHeartbeats 1000000
set_option linter.defProp false
def H1Fs22 := (And.intro (And.intro (And.intro @agg22 (And.intro @agg3 @by3)) (And.intro @fo24_0 (And.intro @fo24_1 @fo24_2))) (And.intro (And.intro @fo24_3 (And.intro @inf22 @inf3)) (And.intro (And.intro @sz22 @sz3) (And.intro @zero3 @Tryd.underlying22))))
set_option pp.maxSteps 400
set_option pp.deepTerms false
theorem intsV_one {h : Eng.Heap} {b : Nat} {x : Int} {ct : TypeId} {fr : Nat × Nat} (hb : h[b]? = some (.cells #[.int .i64 x] ct fr)) : IntsV h (some ⟨b, 0, none⟩) 1 [x] := IntsV.block (xs := [x]) hb
theorem pn1 {h : Eng.Heap} {o o' : Obj} : ((h.push o).push o')[h.size + 1]? = some o' := by rw [Array.getElem?_push, if_pos (by simp)]
theorem pn0 {h : Eng.Heap} {o o' : Obj} : ((h.push o).push o')[h.size]? = some o := by rw [Array.getElem?_push, if_neg (by simp)]; exact push_new
theorem intsV_two {h : Eng.Heap} {b : Nat} {x y : Int} {ct : TypeId} {fr : Nat × Nat} (hb : h[b]? = some (.cells #[.int .i64 x, .int .i64 y] ct fr)) : IntsV h (some ⟨b, 0, none⟩) 2 [x, y] := IntsV.block (xs := [x, y]) hb
theorem inB_one {lo hi x : Int} : inB lo hi [x] = decide (lo ≤ x ∧ x ≤ hi) := by simp [inB]
theorem inB_two {lo hi x y : Int} : inB lo hi [x, y] = decide ((lo ≤ x ∧ x ≤ hi) ∧ lo ≤ y ∧ y ≤ hi) := by simp [inB]
def badAt (m : MV) (i : Nat) : Prop := m.casts.getD i 0 < i ∨ i < m.waits.getD i 0
instance (m : MV) (i : Nat) : Decidable (badAt m i) := by unfold badAt; infer_instance
def inMould (m : MV) : Bool := inB 0 (m.casts.length - 1) [m.lo, m.hi] && inB 0 (m.casts.length - 1) m.casts && inB 0 (m.casts.length - 1) m.waits
def chk (m : MV) : Int :=
  if ¬ (1 ≤ m.casts.length ∧ m.casts.length ≤ 16) then 6
  else if m.waits.length ≠ m.casts.length then 15
  else if inMould m = false then 3
  else if m.hi < m.lo ∨ ¬ sortedTo m.casts 0 ∨ ¬ sortedTo m.waits 0 ∨ ∃ i < m.casts.length, badAt m i then 16
  else 0
theorem chk22 (m : MV) (h : Heap) (hm : m.ok h) : CallsH Tryd.prog 22 #[m.val] h (fun v h' => v = .int .i64 (chk m) ∧ Ext h h') := by
  have hcl := hm.cl
  (refine CallsH_of_exec Tryd.func22 rfl bod22 ?_; simp only [Tryd.ntmps22, Tryd.results22, coreS, stK_some, splice, Value.cells, Value.oneCell', Nat.reduceAdd, Nat.reduceSub, Nat.reduceMul, Nat.reduceLeDiff, Int.reduceEq, Nat.reduceEqDiff, H1Fs22])
  refine CallsH.mono (within62 1 16 _ _ _ [(m.casts.length : Int)] _ ?_ ?_) ?_
  · exact intsV_one pn1
  · omega
  rintro v h1 ⟨rfl, hx1⟩
  have hm1 := hx1.get (push_old (push_new (h := h)))
  have hx1 := hx1.of_push.of_push
  have hm' := hm.ext hx1
  cases hb1 : inB 1 16 [(m.casts.length : Int)]
  · have : ¬ (1 ≤ m.casts.length ∧ m.casts.length ≤ 16) := by simp [inB] at hb1; omega
    simp only [Bool.not_false, coreS, Value.cells, Value.oneCell', Nat.reduceAdd, Nat.reduceSub, Nat.reduceMul, Nat.reduceLeDiff, Int.reduceEq, Nat.reduceEqDiff, H1Fs22]
    exact ⟨by simp [chk, this], hx1⟩
  · have hlen : 1 ≤ m.casts.length ∧ m.casts.length ≤ 16 := by simp [inB] at hb1; omega
    simp only [hm1, Bool.not_true, coreS, Value.cells, Value.oneCell', Nat.reduceAdd, Nat.reduceSub, Nat.reduceMul, Nat.reduceLeDiff, Int.reduceEq, Nat.reduceEqDiff, H1Fs22]
    refine ⟨fun hweq => ?_, fun hwne => ⟨by simp only [chk]; rw [if_neg (by omega), if_pos (by omega)], hx1⟩⟩
    have hweq : m.waits.length = m.casts.length := by omega
    repeat (refine And.intro (by first | omega | (rw [inK_i64]; omega) | rfl | assumption) ?_)
    simp only [coreS, stK_some, splice, Value.cells, Value.oneCell', Nat.reduceAdd, Nat.reduceSub, Nat.reduceMul, Nat.reduceLeDiff, Int.reduceEq, Nat.reduceEqDiff, H1Fs22]
    refine CallsH.mono (within62 0 _ _ _ _ [m.lo, m.hi] _ ?_ ?_) ?_
    · exact intsV_two push_new
    · omega
    rintro v h2 ⟨rfl, hx2⟩
    have hx2 := hx2.of_push
    have hm2 := hx2.get hm1
    have hmm2 := hm'.ext hx2
    have fin3 : inMould m = false → chk m = 3 := fun h => by
      simp only [chk]; rw [if_neg (by omega), if_neg (by omega), if_pos h]
    cases hb2 : inB 0 (m.casts.length - 1) [m.lo, m.hi]
    · simp only [Bool.not_false, coreS, Value.cells, Value.oneCell', Nat.reduceAdd, Nat.reduceSub, Nat.reduceMul, Nat.reduceLeDiff, Int.reduceEq, Nat.reduceEqDiff, H1Fs22]
      exact ⟨by rw [fin3 (by simp [inMould, hb2])], hx1.trans hx2⟩
    simp only [hm2, Bool.not_true, coreS, Value.cells, Value.oneCell', Nat.reduceAdd, Nat.reduceSub, Nat.reduceMul, Nat.reduceLeDiff, Int.reduceEq, Nat.reduceEqDiff, H1Fs22]
    repeat (refine And.intro (by first | omega | (rw [inK_i64]; omega) | rfl | assumption) ?_)
    refine CallsH.mono (within62 0 _ _ _ _ m.casts _ hmm2.c (by omega)) ?_
    rintro v h3 ⟨rfl, hx3⟩
    have hm3 := hx3.get hm2
    have hmm3 := hmm2.ext hx3
    cases hb3 : inB 0 (m.casts.length - 1) m.casts
    · simp only [Bool.not_false, coreS, Value.cells, Value.oneCell', Nat.reduceAdd, Nat.reduceSub, Nat.reduceMul, Nat.reduceLeDiff, Int.reduceEq, Nat.reduceEqDiff, H1Fs22]
      exact ⟨by rw [fin3 (by simp [inMould, hb3])], hx1.trans (hx2.trans hx3)⟩
    simp only [hm3, Bool.not_true, coreS, Value.cells, Value.oneCell', Nat.reduceAdd, Nat.reduceSub, Nat.reduceMul, Nat.reduceLeDiff, Int.reduceEq, Nat.reduceEqDiff, H1Fs22]
    repeat (refine And.intro (by first | omega | (rw [inK_i64]; omega) | rfl | assumption) ?_)
    refine CallsH.mono (within62 0 _ _ _ _ m.waits _ hmm3.w (by omega)) ?_
    rintro v h4 ⟨rfl, hx4⟩
    have hm4 := hx4.get hm3
    have hmm4 := hmm3.ext hx4
    have hx5 := hx1.trans (hx2.trans (hx3.trans hx4))
    cases hb4 : inB 0 (m.casts.length - 1) m.waits
    · simp only [Bool.not_false, coreS, Value.cells, Value.oneCell', Nat.reduceAdd, Nat.reduceSub, Nat.reduceMul, Nat.reduceLeDiff, Int.reduceEq, Nat.reduceEqDiff, H1Fs22]
      exact ⟨by rw [fin3 (by simp [inMould, hb4])], hx5⟩
    have hin : inMould m = true := by simp [inMould, hb2, hb3, hb4]
    have fin16 : (m.hi < m.lo ∨ ¬ sortedTo m.casts 0 ∨ ¬ sortedTo m.waits 0 ∨ ∃ i < m.casts.length, badAt m i) → chk m = 16 := fun h => by
      simp only [chk]; rw [if_neg (by omega), if_neg (by omega), if_neg (by simp [hin]), if_pos h]
    clear hm1 hm2 hm3 hx1 hx2 hx3 hx4 fin3 hm' hmm2 hmm3
    simp only [hm4, Bool.not_true, coreS, Value.cells, Value.oneCell', Nat.reduceAdd, Nat.reduceSub, Nat.reduceMul, Nat.reduceLeDiff, Int.reduceEq, Nat.reduceEqDiff, H1Fs22]
    refine ⟨fun hlo => ⟨by rw [fin16 (.inl hlo)], hx5⟩, fun hlo => ?_⟩
    refine CallsH.mono (isSorted63 _ _ _ m.casts _ hmm4.c (by omega)) ?_
    rintro v h6 ⟨rfl, rfl⟩
    by_cases hs1 : sortedTo m.casts 0
    case neg =>
      simp only [hs1, decide_false, Bool.not_false, coreS, Value.cells, Value.oneCell', Nat.reduceAdd, Nat.reduceSub, Nat.reduceMul, Nat.reduceLeDiff, Int.reduceEq, Nat.reduceEqDiff, H1Fs22]
      exact ⟨by rw [fin16 (.inr (.inl hs1))], hx5⟩
    simp only [hs1, hm4, decide_true, Bool.not_true, coreS, Value.cells, Value.oneCell', Nat.reduceAdd, Nat.reduceSub, Nat.reduceMul, Nat.reduceLeDiff, Int.reduceEq, Nat.reduceEqDiff, H1Fs22]
    refine CallsH.mono (isSorted63 _ _ _ m.waits _ hmm4.w (by omega)) ?_
    rintro v h6 ⟨rfl, rfl⟩
    by_cases hs2 : sortedTo m.waits 0
    case neg =>
      simp only [hs2, decide_false, Bool.not_false, coreS, Value.cells, Value.oneCell', Nat.reduceAdd, Nat.reduceSub, Nat.reduceMul, Nat.reduceLeDiff, Int.reduceEq, Nat.reduceEqDiff, H1Fs22]
      exact ⟨by rw [fin16 (.inr (.inr (.inl hs2)))], hx5⟩
    simp only [hs2, hm4, decide_true, Bool.not_true, coreS, Value.cells, Value.oneCell', Nat.reduceAdd, Nat.reduceSub, Nat.reduceMul, Nat.reduceLeDiff, Int.reduceEq, Nat.reduceEqDiff, H1Fs22]
    refine WP_loopI [2, 4, 64, 65, 66, 67, 68, 69, 70, 71, 72, 73, 74, 75, 76, 77, 78, 79, 80, 81, 82, 83] (fun g h' => h' = h6 ∧ ∃ i : Nat, g 64 = .int .i64 i ∧ i ≤ m.casts.length ∧ ∀ j < i, ¬ badAt m j) (fun g _ => match g 64 with | .int _ n => m.casts.length - n.toNat | _ => 0) ?_ ?_
    · exact ⟨rfl, 0, rfl, by omega, fun j hj => by omega⟩
    · intro g h' hI
      obtain ⟨rfl, i, hg, hi, hno⟩ := hI
      by_cases hlt : i < m.casts.length
      · simp only [hg, hm4, hmm4.c.cell hlt, hmm4.w.cell (j := i) (by omega), coreS, Value.cells, Value.oneCell', Nat.reduceAdd, Nat.reduceSub, Nat.reduceMul, Nat.reduceLeDiff, Int.reduceEq, Nat.reduceEqDiff, H1Fs22]
        refine ⟨fun _ => ⟨⟨by omega, by omega⟩, hmm4.c.isSome (by omega), ?_⟩, fun hc => absurd hc (by omega)⟩
        refine ⟨fun hb => ⟨by rw [fin16 (.inr (.inr (.inr ⟨i, hlt, .inl hb⟩)))], hx5⟩, fun hb => ⟨⟨by omega, by omega⟩, hmm4.w.isSome (by omega), ?_⟩⟩
        refine ⟨fun hb2 => ⟨by rw [fin16 (.inr (.inr (.inr ⟨i, hlt, .inr hb2⟩)))], hx5⟩, fun hb2 => ⟨by rw [inK_i64]; omega, roundK_mk (by kernel_rfl) ⟨rfl, i + 1, rfl, by omega, ?_⟩ ?_⟩⟩
        · intro j hj
          by_cases hji : j = i
          · subst hji; exact fun h => h.elim hb hb2
          · exact hno j (by omega)
        · show m.casts.length - ((i : Int) + 1).toNat < m.casts.length - (i : Int).toNat
          omega
      · simp only [hg, coreS, Value.cells, Value.oneCell', Nat.reduceAdd, Nat.reduceSub, Nat.reduceMul, Nat.reduceLeDiff, Int.reduceEq, Nat.reduceEqDiff, H1Fs22]
        refine ⟨fun hc => absurd hc (by omega), fun _ => ?_⟩
        have hfin : chk m = 0 := by
          simp only [chk]
          rw [if_neg (by omega), if_neg (by omega), if_neg (by simp [hin]), if_neg]
          rintro (h | h | h | ⟨j, hj, hb⟩)
          · exact hlo h
          · exact h hs1
          · exact h hs2
          · exact hno j (by omega) hb
        exact ⟨by rw [hfin], hx5⟩
end Go.Proofs.YtafemfjhflfdeaaDoor
end
section
namespace Go.Proofs.YtafemfjhflfdeaaDoor
open Go Go.Proofs Go.Eng Tab
set_option maxRecDepth 100000
set_option linter.unusedSimpArgs false
set_option linter.unusedVariables false
set_option maxHeartbeats 2000000
set_option linter.defProp false
def H2Fs23 := (And.intro (And.intro (And.intro @agg22 (And.intro @agg3 @by3)) (And.intro @fo24_0 (And.intro @fo24_1 @fo24_2))) (And.intro (And.intro @fo24_3 (And.intro @inf22 @inf3)) (And.intro @sz22 (And.intro @sz3 @Tryd.underlying22))))
theorem gq_none {P : Program} {R : Eng.Heap → Eng.Heap → Prop} {s : Tmp} {w : Bool} {op : Op} {ty : TypeId} {all : List Oper} {rest : List (Nat × Nat)} {k : Cont} {dst : Option Tmp} {e : Env} {d : List Deferred} {h : Eng.Heap} : gq P R undef s w op ty all rest k dst e d h = execD P R all rest k (putE e dst undef) d h := gq_undef
theorem chk23 (m : MV) (h : Eng.Heap) (hm : m.ok h) : CallsH Tryd.prog 23 #[m.val] h (fun v h' => v = .int .i64 (chk m) ∧ Ext h h') := by
  have hcl := hm.cl
  have x0 : Ext h (h.push (.cells #[.slice m.a m.casts.length m.ca, .slice m.b m.waits.length m.cb, .int .i64 m.lo, .int .i64 m.hi] 24)) := (Ext.refl h).push _
  have hb := push_new (h := h) (o := .cells #[.slice m.a m.casts.length m.ca, .slice m.b m.waits.length m.cb, .int .i64 m.lo, .int .i64 m.hi] 24)
  have hm0 := hm.ext x0
  (refine CallsH_of_exec Tryd.func23 rfl bod23 ?_; simp only [Tryd.ntmps23, Tryd.results23, coreS, stK_some, splice, Value.cells, Value.oneCell', Nat.reduceAdd, Nat.reduceSub, Nat.reduceMul, Nat.reduceLeDiff, Int.reduceEq, Nat.reduceEqDiff, H2Fs23])
  have key : ∀ {p : Int} {q : Prop}, chk m = p → q → Value.int .i64 p = Value.int .i64 (chk m) ∧ q := fun h hq => ⟨by rw [h], hq⟩
  refine ⟨fun h1 => key (by unfold chk; rw [if_pos (by omega)]) x0, fun h1 => ⟨fun h2 => key (by unfold chk; rw [if_pos (by omega)]) x0, fun h2 => ?_⟩⟩
  refine ⟨fun h3 => ?_, fun h3 => key (by unfold chk; rw [if_neg (by omega), if_pos (by omega)]) x0⟩
  have hweq : m.waits.length = m.casts.length := by omega
  have r3 : inMould m = false → chk m = 3 := fun h => by unfold chk; rw [if_neg (by omega), if_neg (by omega), if_pos h]
  have hlh : ∀ {x : Int}, inB 0 (m.casts.length - 1) [m.lo, m.hi] = true ↔ (0 ≤ m.lo ∧ m.lo < m.casts.length) ∧ 0 ≤ m.hi ∧ m.hi < m.casts.length := by
    intro x; rw [inB_two]; simp only [decide_eq_true_eq]; omega
  have bad : ¬ ((0 ≤ m.lo ∧ m.lo < m.casts.length) ∧ 0 ≤ m.hi ∧ m.hi < m.casts.length) → inMould m = false := fun hh => by
    have : inB 0 (m.casts.length - 1) [m.lo, m.hi] = false := by
      rw [Bool.eq_false_iff]; exact fun h => hh ((hlh (x := 0)).1 h)
    simp [inMould, this]
  refine ⟨fun h4 => key (r3 (bad (by omega))) x0, fun h4 => ⟨fun h5 => key (r3 (bad (by omega))) x0, fun h5 => ⟨fun h6 => key (r3 (bad (by omega))) x0, fun h6 => ⟨fun h7 => key (r3 (bad (by omega))) x0, fun h7 => ?_⟩⟩⟩⟩
  have gdn : ∀ {P : Program} {s : Tmp} {w : Bool} {op : Op} {ty : TypeId} {all rest : List Oper} {k : Cont} {dst : Option Tmp} {e : Env} {d : List Deferred} {h : Eng.Heap}, gd P undef s w op ty all rest k dst e d h = execR P all rest k (putE e dst undef) d h := gd_undef
  have inr : ∀ i, i < m.casts.length → (m.casts.getD i 0 < 0 ∨ (m.casts.length : Int) ≤ m.casts.getD i 0) ∨ (m.waits.getD i 0 < 0 ∨ (m.casts.length : Int) ≤ m.waits.getD i 0) → inMould m = false := by
    intro i hi hh
    rcases hh with hh | hh
    · have : inB 0 (m.casts.length - 1) m.casts = false := by
        simp only [inB, List.all_eq_false]
        refine ⟨m.casts.getD i 0, by simp [List.getD, List.getElem?_eq_getElem hi], ?_⟩
        simp only [Bool.and_eq_true, decide_eq_true_eq]
        omega
      simp [inMould, this]
    · have : inB 0 (m.casts.length - 1) m.waits = false := by
        simp only [inB, List.all_eq_false]
        refine ⟨m.waits.getD i 0, by simp [List.getD, List.getElem?_eq_getElem (show i < m.waits.length by omega)], ?_⟩
        simp only [Bool.and_eq_true, decide_eq_true_eq]
        omega
      simp [inMould, this]
  refine WP_loopI [2, 4, 40, 41, 42, 43, 44, 45, 46, 47, 48, 49, 50, 51, 52, 53, 54, 55, 56, 57, 58, 59, 60, 61, 62, 63, 64, 65, 66, 67, 68, 69, 70, 71, 72, 73, 74, 75, 76] (fun g h' => h' = h.push (.cells #[.slice m.a m.casts.length m.ca, .slice m.b m.waits.length m.cb, .int .i64 m.lo, .int .i64 m.hi] 24) ∧ ∃ i : Nat, i ≤ m.casts.length ∧ g 4 = .int .i64 i ∧ ∀ j, j < i → (0 ≤ m.casts.getD j 0 ∧ m.casts.getD j 0 < m.casts.length) ∧ 0 ≤ m.waits.getD j 0 ∧ m.waits.getD j 0 < m.casts.length) (fun g _ => match g 4 with | .int _ q => m.casts.length - q.toNat | _ => 0) ⟨rfl, 0, by omega, rfl, fun j hj => by omega⟩ ?_
  rintro g h' ⟨rfl, i, hin, hg, hno⟩
  by_cases hi : i < m.casts.length
  · have c1 := hm0.c.cell hi
    have c2 := hm0.w.cell (j := i) (by omega)
    have s1 := hm0.c.isSome (by omega)
    have s2 := hm0.w.isSome (by omega)
    simp only [hg, hb, c1, c2, coreS, Value.cells, Value.oneCell', Nat.reduceAdd, Nat.reduceSub, Nat.reduceMul, Nat.reduceLeDiff, Int.reduceEq, Nat.reduceEqDiff, H2Fs23]
    refine ⟨fun _ => ⟨⟨by omega, by omega⟩, s1, ?_⟩, fun hge => absurd hge (by omega)⟩
    refine ⟨fun g1 => key (r3 (inr i hi (.inl (.inl g1)))) x0, fun g1 => ⟨⟨by omega, by omega⟩, s1, ?_⟩⟩
    refine ⟨fun g2 => key (r3 (inr i hi (.inl (.inr g2)))) x0, fun g2 => ⟨⟨by omega, by omega⟩, s2, ?_⟩⟩
    refine ⟨fun g3 => key (r3 (inr i hi (.inr (.inl g3)))) x0, fun g3 => ⟨⟨by omega, by omega⟩, s2, ?_⟩⟩
    refine ⟨fun g4 => key (r3 (inr i hi (.inr (.inr g4)))) x0, fun g4 => ⟨by rw [inK_i64]; omega, roundK_mk (by kernel_rfl) ⟨rfl, i + 1, by omega, rfl, ?_⟩ ?_⟩⟩
    · intro j hj
      by_cases hji : j = i
      · subst hji; omega
      · exact hno j (by omega)
    · show m.casts.length - ((i : Int) + 1).toNat < m.casts.length - (i : Int).toNat
      omega
  · obtain rfl : i = m.casts.length := by omega
    have hin2 : inMould m = true := by
      have e1 : inB 0 (m.casts.length - 1) m.casts = true := by
        simp only [inB, List.all_eq_true, Bool.and_eq_true, decide_eq_true_eq]
        intro x hx
        obtain ⟨j, hj, rfl⟩ := List.getElem_of_mem hx
        have := (hno j hj).1
        rw [List.getD, List.getElem?_eq_getElem hj] at this
        simp only [Option.getD_some] at this
        omega
      have e2 : inB 0 (m.casts.length - 1) m.waits = true := by
        simp only [inB, List.all_eq_true, Bool.and_eq_true, decide_eq_true_eq]
        intro x hx
        obtain ⟨j, hj, rfl⟩ := List.getElem_of_mem hx
        have := (hno j (by omega)).2
        rw [List.getD, List.getElem?_eq_getElem hj] at this
        simp only [Option.getD_some] at this
        omega
      have e3 := (hlh (x := 0)).2 ⟨⟨by omega, by omega⟩, by omega, by omega⟩
      simp [inMould, e1, e2, e3]
    have fin16 : (m.hi < m.lo ∨ ¬ sortedTo m.casts 0 ∨ ¬ sortedTo m.waits 0 ∨ ∃ i < m.casts.length, badAt m i) → chk m = 16 := fun h => by
      simp only [chk]; rw [if_neg (by omega), if_neg (by omega), if_neg (by simp [hin2]), if_pos h]
    simp only [hg, hb, coreS, Value.cells, Value.oneCell', Nat.reduceAdd, Nat.reduceSub, Nat.reduceMul, Nat.reduceLeDiff, Int.reduceEq, Nat.reduceEqDiff, H2Fs23]
    refine ⟨fun hlt => absurd hlt (by omega), fun _ => ⟨fun hlo => key (fin16 (.inl hlo)) x0, fun hlo => ?_⟩⟩
    refine WP_loopI [2, 5, 82, 83, 84, 85, 86, 87, 88, 89, 90, 91, 92, 93, 94, 95, 96, 97, 98, 99, 100, 101, 102, 103, 104, 105, 106, 107, 108, 109, 110, 111, 112, 113, 114, 115, 116, 117, 118, 119, 120, 121, 122, 123, 124, 125, 126, 127, 128, 129, 130, 131, 132, 133, 134] (fun g h' => h' = h.push (.cells #[.slice m.a m.casts.length m.ca, .slice m.b m.waits.length m.cb, .int .i64 m.lo, .int .i64 m.hi] 24) ∧ ∃ i : Nat, i ≤ m.casts.length ∧ g 5 = .int .i64 i ∧ (∀ j, j < i → ¬ badAt m j) ∧ ∀ j, j + 1 < i → m.casts.getD j 0 ≤ m.casts.getD (j + 1) 0 ∧ m.waits.getD j 0 ≤ m.waits.getD (j + 1) 0) (fun g _ => match g 5 with | .int _ q => m.casts.length - q.toNat | _ => 0) ⟨rfl, 0, by omega, rfl, fun j hj => by omega, fun j hj => by omega⟩ ?_
    rintro g2 h2 ⟨rfl, i, hin, hg2, hnb, hso⟩
    by_cases hi : i < m.casts.length
    · have c1 := hm0.c.cell hi
      have c2 := hm0.w.cell (j := i) (by omega)
      have s1 := hm0.c.isSome (by omega)
      have s2 := hm0.w.isSome (by omega)
      have step : ¬ badAt m i → (∀ j, j + 1 = i → m.casts.getD j 0 ≤ m.casts.getD i 0 ∧ m.waits.getD j 0 ≤ m.waits.getD i 0) → (∀ j, j < i + 1 → ¬ badAt m j) ∧ ∀ j, j + 1 < i + 1 → m.casts.getD j 0 ≤ m.casts.getD (j + 1) 0 ∧ m.waits.getD j 0 ≤ m.waits.getD (j + 1) 0 := fun hb hs => by
        refine ⟨fun j hj => ?_, fun j hj => ?_⟩
        · by_cases hji : j = i
          · subst hji; exact hb
          · exact hnb j (by omega)
        · by_cases hji : j + 1 = i
          · have := hs j hji; rw [hji]; exact this
          · exact hso j (by omega)
      simp only [hg2, hb, coreS, Value.cells, Value.oneCell', Nat.reduceAdd, Nat.reduceSub, Nat.reduceMul, Nat.reduceLeDiff, Int.reduceEq, Nat.reduceEqDiff, H2Fs23]
      refine ⟨fun _ => ?_, fun hge => absurd hge (by omega)⟩
      refine WP_draw (by kernel_rfl) sta_eq [(0, 0), (1, 0), (2, 0), (3, 0), (4, 0), (5, 0), (6, 0), (7, 0), (8, 0), (9, 0), (10, 0), (11, 0), (12, 0), (13, 0), (14, 0), (15, 0), (16, 0), (17, 0), (18, 0), (19, 0), (20, 0), (21, 0), (22, 0), (23, 0), (24, 0), (25, 0), (26, 0), (27, 0), (28, 0), (29, 0), (30, 0), (31, 0), (32, 0), (33, 0), (34, 0), (35, 0), (36, 0), (37, 0), (38, 0), (39, 0), (40, 0), (41, 0), (42, 0), (43, 0), (44, 0), (45, 0), (46, 0), (47, 0)] (by kernel_rfl) rfl (by kernel_rfl) ?_
      by_cases g1 : m.casts.getD i 0 < i
      · simp only [hg2, hb, c1, c2, g1, gq_none, decide_true, Int.toNat_natCast, coreS, Value.cells, Value.oneCell', Nat.reduceAdd, Nat.reduceSub, Nat.reduceMul, Nat.reduceLeDiff, Int.reduceEq, Nat.reduceEqDiff, drawS, H2Fs23]
        refine ⟨⟨by omega, by omega⟩, s1, ?_⟩
        exact key (fin16 (.inr (.inr (.inr ⟨i, hi, .inl g1⟩)))) x0
      by_cases g2 : (i : Int) < m.waits.getD i 0
      · simp only [hg2, hb, c1, c2, g1, g2, gq_none, decide_true, decide_false, Int.toNat_natCast, coreS, Value.cells, Value.oneCell', Nat.reduceAdd, Nat.reduceSub, Nat.reduceMul, Nat.reduceLeDiff, Int.reduceEq, Nat.reduceEqDiff, drawS, H2Fs23]
        repeat (refine And.intro (by first | omega | (rw [inK_i64]; omega) | rfl | assumption | (exact s1) | (exact s2)) ?_)
        exact key (fin16 (.inr (.inr (.inr ⟨i, hi, .inr g2⟩)))) x0
      have hnbi : ¬ badAt m i := fun hh => hh.elim g1 g2
      rcases i with _ | j
      · have hz : ¬ (0 : Int) < ((0 : Nat) : Int) := by omega
        simp only [hg2, hb, c1, c2, g1, g2, hz, gq_none, decide_true, decide_false, Int.toNat_natCast, coreS, Value.cells, Value.oneCell', Nat.reduceAdd, Nat.reduceSub, Nat.reduceMul, Nat.reduceLeDiff, Int.reduceEq, Nat.reduceEqDiff, drawS, H2Fs23]
        repeat (refine And.intro (by first | omega | (rw [inK_i64]; omega) | rfl | assumption | (exact s1) | (exact s2)) ?_)
        refine roundK_mk (by kernel_rfl) ⟨rfl, 1, by omega, rfl, step hnbi fun j hj => by omega⟩ ?_
        show m.casts.length - ((0 : Int) + 1).toNat < m.casts.length - (0 : Int).toNat
        omega
      · have hz : (0 : Int) < ((j + 1 : Nat) : Int) := by omega
        have t1 : (((j + 1 : Nat) : Int) - 1).toNat = j := by omega
        have d1 := hm0.c.cell (j := j) (by omega)
        have d2 := hm0.w.cell (j := j) (by omega)
        by_cases g3 : m.casts.getD (j + 1) 0 < m.casts.getD j 0
        · simp only [hg2, hb, c1, c2, d1, d2, t1, g1, g2, g3, hz, gq_none, decide_true, decide_false, Int.toNat_natCast, coreS, Value.cells, Value.oneCell', Nat.reduceAdd, Nat.reduceSub, Nat.reduceMul, Nat.reduceLeDiff, Int.reduceEq, Nat.reduceEqDiff, drawS, H2Fs23]
          repeat (refine And.intro (by first | omega | (rw [inK_i64]; omega) | rfl | assumption | (exact s1) | (exact s2)) ?_)
          exact key (fin16 (.inr (.inl fun hs => by have := hs j (by omega) hi; omega))) x0
        by_cases g4 : m.waits.getD (j + 1) 0 < m.waits.getD j 0
        · simp only [hg2, hb, c1, c2, d1, d2, t1, g1, g2, g3, g4, hz, gq_none, decide_true, decide_false, Int.toNat_natCast, coreS, Value.cells, Value.oneCell', Nat.reduceAdd, Nat.reduceSub, Nat.reduceMul, Nat.reduceLeDiff, Int.reduceEq, Nat.reduceEqDiff, drawS, H2Fs23]
          repeat (refine And.intro (by first | omega | (rw [inK_i64]; omega) | rfl | assumption | (exact s1) | (exact s2)) ?_)
          exact key (fin16 (.inr (.inr (.inl fun hs => by have := hs j (by omega) (by omega); omega)))) x0
        · simp only [hg2, hb, c1, c2, d1, d2, t1, g1, g2, g3, g4, hz, gq_none, decide_true, decide_false, Int.toNat_natCast, coreS, Value.cells, Value.oneCell', Nat.reduceAdd, Nat.reduceSub, Nat.reduceMul, Nat.reduceLeDiff, Int.reduceEq, Nat.reduceEqDiff, drawS, H2Fs23]
          repeat (refine And.intro (by first | omega | (rw [inK_i64]; omega) | rfl | assumption | (exact s1) | (exact s2)) ?_)
          refine roundK_mk (by kernel_rfl) ⟨rfl, j + 1 + 1, by omega, rfl, step hnbi fun q hq => by
            obtain rfl : q = j := by omega
            omega⟩ ?_
          show m.casts.length - (((j + 1 : Nat) : Int) + 1).toNat < m.casts.length - ((j + 1 : Nat) : Int).toNat
          omega
    · obtain rfl : i = m.casts.length := by omega
      simp only [hg2, hb, coreS, Value.cells, Value.oneCell', Nat.reduceAdd, Nat.reduceSub, Nat.reduceMul, Nat.reduceLeDiff, Int.reduceEq, Nat.reduceEqDiff, H2Fs23]
      refine ⟨fun hlt => absurd hlt (by omega), fun _ => ?_⟩
      have hfin : chk m = 0 := by
        simp only [chk]
        rw [if_neg (by omega), if_neg (by omega), if_neg (by simp [hin2]), if_neg]
        rintro (h | h | h | ⟨j, hj, hb⟩)
        · exact hlo h
        · exact h fun j _ hj => (hso j hj).1
        · exact h fun j _ hj => (hso j (by omega)).2
        · exact hnb j hj hb
      exact key hfin x0
end Go.Proofs.YtafemfjhflfdeaaDoor
end
section
namespace Go.Proofs
open Go.Shelf
def Tryd.lays160_ren : Go.Shelf.Ren := ⟨fun | 160 => 80 | 232 => 100 | 231 => 99 | 227 => 101 | 234 => 103 | 233 => 102 | 236 => 105 | 235 => 104 | 228 => 110 | 271 => 113 | 151 => 112 | 197 => 111 | 120 => 122 | 152 => 121 | 260 => 120 | 137 => 125 | 119 => 126 | 224 => 116 | 225 => 115 | 217 => 114 | 266 => 123 | n => n, fun | 9 => 9 | 4 => 4 | 3 => 3 | 5 => 5 | 117 => 134 | 116 => 133 | 0 => 0 | 124 => 137 | 21 => 21 | 105 => 147 | 46 => 150 | 119 => 158 | 139 => 161 | 138 => 160 | n => n, fun | 3 => 1 | 4 => 2 | n => n⟩
theorem Tryd.lays160 : Go.Proofs.Lays.n160 Tryd.prog Tryd.lays160_ren := {
  mixed := by kernel_rfl
  f119 := Tryd.func126.trans (congrArg some (by kernel_rfl))
  f120 := Tryd.func122.trans (congrArg some (by kernel_rfl))
  f137 := Tryd.func125.trans (congrArg some (by kernel_rfl))
  f151 := Tryd.func112.trans (congrArg some (by kernel_rfl))
  f152 := Tryd.func121.trans (congrArg some (by kernel_rfl))
  f160 := Tryd.func80.trans (congrArg some (by kernel_rfl))
  f197 := Tryd.func111.trans (congrArg some (by kernel_rfl))
  f217 := Tryd.func114.trans (congrArg some (by kernel_rfl))
  f224 := Tryd.func116.trans (congrArg some (by kernel_rfl))
  f225 := Tryd.func115.trans (congrArg some (by kernel_rfl))
  f227 := Tryd.func101.trans (congrArg some (by kernel_rfl))
  f228 := Tryd.func110.trans (congrArg some (by kernel_rfl))
  f231 := Tryd.func99.trans (congrArg some (by kernel_rfl))
  f232 := Tryd.func100.trans (congrArg some (by kernel_rfl))
  f233 := Tryd.func102.trans (congrArg some (by kernel_rfl))
  f234 := Tryd.func103.trans (congrArg some (by kernel_rfl))
  f235 := Tryd.func104.trans (congrArg some (by kernel_rfl))
  f236 := Tryd.func105.trans (congrArg some (by kernel_rfl))
  f260 := Tryd.func120.trans (congrArg some (by kernel_rfl))
  f266 := Tryd.func123.trans (congrArg some (by kernel_rfl))
  f271 := Tryd.func113.trans (congrArg some (by kernel_rfl))
  t0 := Tryd.underlying0
  a0 := Tryd.isAgg0
  z0 := Tryd.sizeOf0
  v0 := Tryd.zeroValue0
  t3 := Tryd.underlying3
  a3 := Tryd.isAgg3
  z3 := Tryd.sizeOf3
  v3 := Tryd.zeroValue3
  t4 := Tryd.underlying4
  a4 := Tryd.isAgg4
  z4 := Tryd.sizeOf4
  v4 := Tryd.zeroValue4
  t5 := Tryd.underlying5
  a5 := Tryd.isAgg5
  z5 := Tryd.sizeOf5
  v5 := Tryd.zeroValue5
  t9 := Tryd.underlying9
  a9 := Tryd.isAgg9
  z9 := Tryd.sizeOf9
  v9 := Tryd.zeroValue9
  t21 := Tryd.underlying21
  a21 := Tryd.isAgg21
  z21 := Tryd.sizeOf21
  v21 := Tryd.zeroValue21
  t46 := Tryd.underlying150
  a46 := Tryd.isAgg150
  z46 := Tryd.sizeOf150
  v46 := Tryd.zeroValue150
  t105 := Tryd.underlying147
  a105 := Tryd.isAgg147
  z105 := Tryd.sizeOf147
  v105 := Tryd.zeroValue147
  t116 := Tryd.underlying133
  a116 := Tryd.isAgg133
  z116 := Tryd.sizeOf133
  t117 := Tryd.underlying134
  a117 := Tryd.isAgg134
  z117 := Tryd.sizeOf134
  v117 := Tryd.zeroValue134
  t119 := Tryd.underlying158
  a119 := Tryd.isAgg158
  z119 := Tryd.sizeOf158
  t124 := Tryd.underlying137
  a124 := Tryd.isAgg137
  z124 := Tryd.sizeOf137
  v124 := Tryd.zeroValue137
  t138 := Tryd.underlying160
  a138 := Tryd.isAgg160
  z138 := Tryd.sizeOf160
  v138 := Tryd.zeroValue160
  t139 := Tryd.underlying161
  a139 := Tryd.isAgg161
  z139 := Tryd.sizeOf161
  v139 := Tryd.zeroValue161
  g3 := by kernel_rfl
  g4 := by kernel_rfl }
def Tryd.lays138_ren : Go.Shelf.Ren := ⟨fun | 138 => 59 | 195 => 84 | 218 => 85 | 143 => 86 | 219 => 106 | 217 => 114 | 225 => 115 | 224 => 116 | 267 => 117 | 266 => 123 | 314 => 124 | n => n, fun | 9 => 9 | 3 => 3 | 4 => 4 | 5 => 5 | 0 => 0 | 46 => 150 | 146 => 156 | 51 => 155 | n => n, fun | 1 => 0 | n => n⟩
theorem Tryd.lays138 : Go.Proofs.Lays.n138 Tryd.prog Tryd.lays138_ren := {
  mixed := by kernel_rfl
  f138 := Tryd.func59.trans (congrArg some (by kernel_rfl))
  f143 := Tryd.func86.trans (congrArg some (by kernel_rfl))
  f195 := Tryd.func84.trans (congrArg some (by kernel_rfl))
  f217 := Tryd.func114.trans (congrArg some (by kernel_rfl))
  f218 := Tryd.func85.trans (congrArg some (by kernel_rfl))
  f219 := Tryd.func106.trans (congrArg some (by kernel_rfl))
  f224 := Tryd.func116.trans (congrArg some (by kernel_rfl))
  f225 := Tryd.func115.trans (congrArg some (by kernel_rfl))
  f266 := Tryd.func123.trans (congrArg some (by kernel_rfl))
  f267 := Tryd.func117.trans (congrArg some (by kernel_rfl))
  f314 := Tryd.func124.trans (congrArg some (by kernel_rfl))
  t0 := Tryd.underlying0
  a0 := Tryd.isAgg0
  z0 := Tryd.sizeOf0
  v0 := Tryd.zeroValue0
  t3 := Tryd.underlying3
  a3 := Tryd.isAgg3
  z3 := Tryd.sizeOf3
  v3 := Tryd.zeroValue3
  t4 := Tryd.underlying4
  a4 := Tryd.isAgg4
  z4 := Tryd.sizeOf4
  v4 := Tryd.zeroValue4
  t5 := Tryd.underlying5
  a5 := Tryd.isAgg5
  z5 := Tryd.sizeOf5
  v5 := Tryd.zeroValue5
  t9 := Tryd.underlying9
  a9 := Tryd.isAgg9
  z9 := Tryd.sizeOf9
  v9 := Tryd.zeroValue9
  t46 := Tryd.underlying150
  a46 := Tryd.isAgg150
  z46 := Tryd.sizeOf150
  v46 := Tryd.zeroValue150
  t51 := Tryd.underlying155
  a51 := Tryd.isAgg155
  z51 := Tryd.sizeOf155
  v51 := Tryd.zeroValue155
  t146 := Tryd.underlying156
  a146 := Tryd.isAgg156
  z146 := Tryd.sizeOf156
  v146 := Tryd.zeroValue156
  g1 := by kernel_rfl }
end Go.Proofs
end
section
namespace Go.Proofs.YtafemfjhflfdeaaDoor
open Go Go.Proofs Go.Eng Tab Go.RowKit
set_option maxRecDepth 100000
set_option linter.unusedSimpArgs false
set_option linter.unusedVariables false
set_option maxHeartbeats 2000000
theorem calls_below {P : Program} {f : FuncId} {args : Array Value} {v : Value} {h : Eng.Heap} (hb : bodied P f = true) (H : ∀ w : World, Calls P f args w fun e w' => e = .returned v ∧ Below w.heap.size w w') : CallsH P f args h (fun u h' => u = v ∧ Ext h h') := by
  unfold CallsH CallsW
  refine ⟨hb, fun w hw => ?_⟩
  refine (H w).mono fun e w' ⟨he, b⟩ => ?_
  exact ⟨v, he, ⟨rfl, by rw [← hw]; exact ⟨b.size, fun i hi => b.block i hi⟩⟩, b.os, b.tape, b.output⟩
theorem calls_same {P : Program} {f : FuncId} {args : Array Value} {v : Value} {h : Eng.Heap} (hb : bodied P f = true) (H : ∀ w : World, Calls P f args w fun e w' => e = .returned v ∧ w' = w) : CallsH P f args h (fun u h' => u = v ∧ h' = h) := by
  unfold CallsH CallsW
  refine ⟨hb, fun w hw => ?_⟩
  refine (H w).mono fun e w' ⟨he, b⟩ => ?_
  subst b
  exact ⟨v, he, ⟨rfl, hw⟩, rfl, rfl, rfl⟩
theorem trim80 (s cutset : ByteArray) (h : Eng.Heap) (hs : s.size ≤ 9223372036854775807) (hcs : cutset.size < 4294967281) (ha : cutset.data.toList.all (fun b => decide (b.toNat < 128)) = true) :
    CallsH Tryd.prog 80 #[.string s, .string cutset] h (fun v h' => v = .string ⟨(Lib.trimS s.data.toList cutset.data.toList).toArray⟩ ∧ Ext h h') :=
  calls_below (by kernel_rfl) fun w => Any.strings_Trim_laid Tryd.lays160 (by kernel_rfl) s cutset w hs hcs (ascii_of_all ha)
theorem count59 (s : ByteArray) (c : UInt8) (h : Eng.Heap) :
    CallsH Tryd.prog 59 #[.string s, .string ⟨#[c]⟩] h (fun v h' => v = .int .i64 (Lib.countByte s.data.toList c) ∧ h' = h) :=
  calls_same (by kernel_rfl) fun w => Any.strings_Count_one Tryd.lays138 s c w
theorem dw_nil {α : Type} {p : α → Bool} : ∀ {l : List α}, l.dropWhile p = [] ↔ ∀ b ∈ l, p b = true
  | [] => by simp
  | x :: l => by
    rw [List.dropWhile_cons]
    split
    · rename_i h
      rw [dw_nil (l := l)]
      simp [h]
    · rename_i h
      simp [h]
theorem trim_nil (l cs : List UInt8) : Lib.trimS l cs = [] ↔ ∀ b ∈ l, cs.contains b = true := by
  unfold Lib.trimS Lib.trimLeftS Lib.trimRightS
  constructor
  · intro H
    have h1 : ∀ b ∈ l.reverse.dropWhile (cs.contains ·), cs.contains b = true := by
      intro b hb
      have hh := dw_nil.1 H b (List.mem_reverse.2 hb)
      exact hh
    cases hd : l.reverse.dropWhile (cs.contains ·) with
    | nil =>
      intro b hb
      exact dw_nil.1 hd b (List.mem_reverse.2 hb)
    | cons x r =>
      have hne : l.reverse.dropWhile (cs.contains ·) ≠ [] := by rw [hd]; simp
      have h2 := List.head_dropWhile_not (cs.contains ·) hne
      have h3 := h1 _ (List.head_mem hne)
      rw [h3] at h2
      cases h2
  · intro H
    have : l.reverse.dropWhile (cs.contains ·) = [] := dw_nil.2 fun b hb => H b (List.mem_reverse.1 hb)
    rw [this]; rfl
def lets (s : ByteArray) : Bool := s.data.toList.all fun b => b == 99 || b == 119
def formE (s : ByteArray) : Int := if 500 < s.size then 7 else if lets s then 0 else 8
theorem size_list (s : ByteArray) : s.data.toList.length = s.size := Array.length_toList
theorem letters57 (s : ByteArray) (h : Eng.Heap) (hs : s.size ≤ 9223372036854775807) : CallsH Tryd.prog 57 #[.string s] h (fun v h' => v = .int .i64 (formE s) ∧ Ext h h') := by
  (refine CallsH_of_exec Tryd.func57 rfl bod57 ?_; simp only [Tryd.ntmps57, Tryd.results57, coreS, stK_some, splice, Value.cells, Value.oneCell', Nat.reduceAdd, Nat.reduceSub, Nat.reduceMul, Nat.reduceLeDiff, Int.reduceEq, Nat.reduceEqDiff, Tryd.underlying9])
  by_cases hl : 500 < s.size
  · have hl2 : (500 : Int) < s.size := by omega
    simp only [hl2, decide_true, coreS, Value.cells, Value.oneCell', Nat.reduceAdd, Nat.reduceSub, Nat.reduceMul, Nat.reduceLeDiff, Int.reduceEq, Nat.reduceEqDiff, Tryd.underlying9]
    exact ⟨by rw [formE, if_pos hl], Ext.refl h⟩
  · have hl2 : ¬ (500 : Int) < s.size := by omega
    simp only [hl2, decide_false, coreS, Value.cells, Value.oneCell', Nat.reduceAdd, Nat.reduceSub, Nat.reduceMul, Nat.reduceLeDiff, Int.reduceEq, Nat.reduceEqDiff, Tryd.underlying9]
    refine CallsH.mono (trim80 s _ h hs (by decide) (by decide)) ?_
    rintro v h1 ⟨rfl, x1⟩
    have hi := trim_nil s.data.toList [99, 119]
    have ha : lets s = true ↔ ∀ b ∈ s.data.toList, ([99, 119] : List UInt8).contains b = true := by
      simp only [lets, List.all_eq_true]
      constructor
      · intro H b hb; have := H b hb; simpa using this
      · intro H b hb; have := H b hb; simpa using this
    cases hlt : lets s with
    | true =>
      have e := hi.2 (ha.1 hlt)
      simp only [e, coreS, Value.cells, Value.oneCell', Nat.reduceAdd, Nat.reduceSub, Nat.reduceMul, Nat.reduceLeDiff, Int.reduceEq, Nat.reduceEqDiff, Tryd.underlying9]
      exact ⟨by rw [formE, if_neg hl, if_pos hlt], x1⟩
    | false =>
      have e : ¬ Lib.trimS s.data.toList [99, 119] = [] := fun hh => by rw [ha.2 (hi.1 hh)] at hlt; cases hlt
      simp only [coreS, Value.cells, Value.oneCell', Nat.reduceAdd, Nat.reduceSub, Nat.reduceMul, Nat.reduceLeDiff, Int.reduceEq, Nat.reduceEqDiff, Tryd.underlying9]
      refine ⟨fun hh => absurd ?_ e, fun _ => ⟨by rw [formE, if_neg hl, if_neg (by rw [hlt]; simp)], x1⟩⟩
      have := congrArg (fun b : ByteArray => b.data.toList) hh
      simpa using this
end Go.Proofs.YtafemfjhflfdeaaDoor
end
section
namespace Go.Proofs.YtafemfjhflfdeaaDoor
open Go Go.Proofs Go.Eng Tab
set_option maxRecDepth 100000
set_option linter.unusedSimpArgs false
set_option linter.unusedVariables false
set_option maxHeartbeats 2000000
set_option linter.defProp false
def H4Fs56 := (And.intro (And.intro (And.intro @agg22 @agg24) (And.intro @fo24_0 (And.intro @fps112_0 @inf22))) (And.intro (And.intro @inf24 (And.intro @okf112 @sz22)) (And.intro @sz24 (And.intro @zero112 @Tryd.underlying22))))
def H4Fs60 := (And.intro (And.intro (And.intro @agg22 @agg24) (And.intro @fo24_0 @inf22)) (And.intro (And.intro @inf24 @sz22) (And.intro @sz24 @Tryd.underlying22)))
theorem lets_iff (s : ByteArray) : lets s = true ↔ ∀ i, i < s.size → s.data.getD i 0 = 99 ∨ s.data.getD i 0 = 119 := by
  simp only [lets, List.all_eq_true, Bool.or_eq_true, beq_iff_eq]
  constructor
  · intro H i hi
    refine H _ ?_
    have hi' : i < s.data.size := hi
    rw [Array.getD_eq_getD_getElem?, Array.getElem?_eq_getElem hi', Option.getD_some, Array.mem_toList_iff]
    exact Array.getElem_mem hi'
  · intro H b hb
    obtain ⟨i, hi, rfl⟩ := List.getElem_of_mem hb
    have hi' : i < s.data.size := by simpa using hi
    have := H i hi'
    rw [Array.getD_eq_getD_getElem?, Array.getElem?_eq_getElem hi', Option.getD_some] at this
    simpa using this
theorem byte_eq {b c : UInt8} : ((b.toNat : Int) = (c.toNat : Int)) ↔ b = c := by
  constructor
  · intro h; exact UInt8.toNat_inj.1 (by omega)
  · rintro rfl; rfl
theorem formOf61 (s : ByteArray) (h : Eng.Heap) (hs : s.size ≤ 9223372036854775807) : CallsH Tryd.prog 61 #[.string s] h (fun v h' => v = .int .i64 (formE s) ∧ h' = h) := by
  (refine CallsH_of_exec Tryd.func61 rfl bod61 ?_; simp only [Tryd.ntmps61, Tryd.results61, coreS, stK_some, splice, Value.cells, Value.oneCell', Nat.reduceAdd, Nat.reduceSub, Nat.reduceMul, Nat.reduceLeDiff, Int.reduceEq, Nat.reduceEqDiff, Tryd.underlying9])
  by_cases hl : 500 < s.size
  · have hl2 : (500 : Int) < s.size := by omega
    simp only [hl2, decide_true, coreS, Value.cells, Value.oneCell', Nat.reduceAdd, Nat.reduceSub, Nat.reduceMul, Nat.reduceLeDiff, Int.reduceEq, Nat.reduceEqDiff, Tryd.underlying9]
    rw [formE, if_pos hl]
  · have hl2 : ¬ (500 : Int) < s.size := by omega
    simp only [hl2, decide_false, coreS, Value.cells, Value.oneCell', Nat.reduceAdd, Nat.reduceSub, Nat.reduceMul, Nat.reduceLeDiff, Int.reduceEq, Nat.reduceEqDiff, Tryd.underlying9]
    refine WP_loopI [2, 3, 7, 8, 9, 10, 11, 12, 13, 14, 15, 16, 17, 18, 19, 20, 21, 22] (fun g h' => h' = h ∧ ∃ i : Nat, i ≤ s.size ∧ g 3 = .int .i64 i ∧ ∀ j, j < i → s.data.getD j 0 = 99 ∨ s.data.getD j 0 = 119) (fun g _ => match g 3 with | .int _ q => s.size - q.toNat | _ => 0) ⟨rfl, 0, by omega, rfl, fun j hj => by omega⟩ ?_
    rintro g h' ⟨rfl, i, hin, hg, hno⟩
    by_cases hi : i < s.size
    · simp only [hg, Int.toNat_natCast, coreS, Value.cells, Value.oneCell', Nat.reduceAdd, Nat.reduceSub, Nat.reduceMul, Nat.reduceLeDiff, Int.reduceEq, Nat.reduceEqDiff, Tryd.underlying9]
      refine ⟨fun _ => ?_, fun hge => absurd (by omega) hge⟩
      refine ⟨by omega, ?_⟩
      have next : (s.data.getD i 0 = 99 ∨ s.data.getD i 0 = 119) → ∀ j, j < i + 1 → s.data.getD j 0 = 99 ∨ s.data.getD j 0 = 119 := fun h j hj => by
        by_cases hji : j = i
        · subst hji; exact h
        · exact hno j (by omega)
      refine ⟨fun h1 => ?_, fun h1 => ⟨by omega, fun h2 => ?_, fun h2 => ?_⟩⟩
      · refine ⟨by rw [inK_i64]; omega, roundK_mk (by kernel_rfl) ⟨rfl, i + 1, by omega, rfl, next (.inl (byte_eq (c := 99)|>.1 h1))⟩ ?_⟩
        show s.size - ((i : Int) + 1).toNat < s.size - (i : Int).toNat
        omega
      · refine ⟨by rw [inK_i64]; omega, roundK_mk (by kernel_rfl) ⟨rfl, i + 1, by omega, rfl, next (.inr (byte_eq (c := 119)|>.1 h2))⟩ ?_⟩
        show s.size - ((i : Int) + 1).toNat < s.size - (i : Int).toNat
        omega
      · have : lets s = false := by
          rw [Bool.eq_false_iff]
          intro hh
          rcases (lets_iff s).1 hh i hi with h3 | h3
          · exact h1 ((byte_eq (c := 99)).2 h3)
          · exact h2 ((byte_eq (c := 119)).2 h3)
        rw [formE, if_neg hl, this]; rfl
    · have : lets s = true := (lets_iff s).2 fun j hj => hno j (by omega)
      simp only [hg, coreS, Value.cells, Value.oneCell', Nat.reduceAdd, Nat.reduceSub, Nat.reduceMul, Nat.reduceLeDiff, Int.reduceEq, Nat.reduceEqDiff, Tryd.underlying9]
      refine ⟨fun hlt => absurd hlt (by omega), fun _ => by rw [formE, if_neg hl, this]; rfl⟩
def opn (m : MV) (heats : List Int) : Int := if chk m ≠ 0 then chk m else if inB 0 (m.casts.length - 1) heats then 0 else 2
theorem chk_pos {m : MV} (h : chk m = 0) : (1 ≤ m.casts.length ∧ m.casts.length ≤ 16) ∧ m.waits.length = m.casts.length ∧ inMould m = true ∧ m.lo ≤ m.hi ∧ sortedTo m.casts 0 ∧ sortedTo m.waits 0 ∧ ∀ i, i < m.casts.length → ¬ badAt m i := by
  unfold chk at h
  split at h
  · omega
  split at h
  · omega
  split at h
  · omega
  split at h
  · omega
  rename_i h1 h2 h3 h4
  simp only [not_or] at h4
  exact ⟨Classical.not_not.1 h1, Classical.not_not.1 h2, by simpa using h3, by omega, Classical.not_not.1 h4.2.1, Classical.not_not.1 h4.2.2.1, fun i hi hb => h4.2.2.2 ⟨i, hi, hb⟩⟩
def Oven (h : Eng.Heap) (b : Nat) (m : MV) : Prop := h[b]? = some (.cells #[.slice m.a m.casts.length m.ca, .slice m.b m.waits.length m.cb, .int .i64 m.lo, .int .i64 m.hi] 112)
theorem open56 (m : MV) (a : Option Addr) (n c : Nat) (heats : List Int) (h : Eng.Heap) (hm : m.ok h) (hh : IntsV h a n heats) (hn : n ≤ 1000000) :
    CallsH Tryd.prog 56 #[m.val, .slice a n c] h (fun v h' => Ext h h' ∧ ((opn m heats = 0 ∧ ∃ b, v = .tuple #[.pointer (some ⟨b, 0, none⟩), .int .i64 0] ∧ Oven h' b m ∧ h.size ≤ b) ∨ (opn m heats ≠ 0 ∧ v = .tuple #[.pointer none, .int .i64 (opn m heats)]))) := by
  have hcl := hm.cl
  (refine CallsH_of_exec Tryd.func56 rfl bod56 ?_; simp only [Tryd.ntmps56, Tryd.results56, coreS, stK_some, splice, Value.cells, Value.oneCell', Nat.reduceAdd, Nat.reduceSub, Nat.reduceMul, Nat.reduceLeDiff, Int.reduceEq, Nat.reduceEqDiff, H4Fs56])
  have x0 : Ext h (h.push (.cells #[.slice m.a m.casts.length m.ca, .slice m.b m.waits.length m.cb, .int .i64 m.lo, .int .i64 m.hi] 24)) := (Ext.refl h).push _
  refine CallsH.mono (chk22 m _ (hm.ext x0)) ?_
  rintro v h1 ⟨rfl, x1⟩
  have hb1 := x1.get (push_new (h := h))
  have y1 := x0.trans x1
  by_cases hc : chk m = 0
  · have e1 : opn m heats = if inB 0 (m.casts.length - 1) heats then 0 else 2 := by rw [opn, if_neg (by simpa using hc)]
    simp only [hc, hb1, decide_true, Bool.not_true, coreS, Value.cells, Value.oneCell', Nat.reduceAdd, Nat.reduceSub, Nat.reduceMul, Nat.reduceLeDiff, Int.reduceEq, Nat.reduceEqDiff, H4Fs56]
    refine ⟨by rw [inK_i64]; omega, ?_⟩
    refine CallsH.mono (within62 0 _ a n c heats h1 (hh.ext y1) hn) ?_
    rintro v h2 ⟨rfl, x2⟩
    have hb2 := x2.get hb1
    have y2 := y1.trans x2
    cases hin : inB 0 (m.casts.length - 1) heats with
    | true =>
      rw [hin] at e1
      simp only [hb2, splice, coreS, Value.cells, Value.oneCell', Nat.reduceAdd, Nat.reduceSub, Nat.reduceMul, Nat.reduceLeDiff, Int.reduceEq, Nat.reduceEqDiff, H4Fs56]
      exact ⟨y2.push _, .inl ⟨by simpa using e1, h2.size, rfl, push_new, y2.size⟩⟩
    | false =>
      rw [hin] at e1
      have e2 : opn m heats = 2 := e1
      simp only [hb2, coreS, Value.cells, Value.oneCell', Nat.reduceAdd, Nat.reduceSub, Nat.reduceMul, Nat.reduceLeDiff, Int.reduceEq, Nat.reduceEqDiff, H4Fs56]
      exact ⟨y2, .inr ⟨by rw [e2]; omega, by rw [e2]⟩⟩
  · have e1 : opn m heats = chk m := by rw [opn, if_pos hc]
    simp only [hc, decide_false, Bool.not_false, coreS, Value.cells, Value.oneCell', Nat.reduceAdd, Nat.reduceSub, Nat.reduceMul, Nat.reduceLeDiff, Int.reduceEq, Nat.reduceEqDiff, H4Fs56]
    exact ⟨y1, .inr ⟨by rw [e1]; exact hc, by rw [e1]⟩⟩
theorem isFrom60 (m : MV) (x : Int) (h : Eng.Heap) (hm : m.ok h) :
    CallsH Tryd.prog 60 #[m.val, .int .i64 x] h (fun v h' => v = .int .i64 (opn m [x]) ∧ Ext h h') := by
  have hcl := hm.cl
  (refine CallsH_of_exec Tryd.func60 rfl bod60 ?_; simp only [Tryd.ntmps60, Tryd.results60, coreS, stK_some, splice, Value.cells, Value.oneCell', Nat.reduceAdd, Nat.reduceSub, Nat.reduceMul, Nat.reduceLeDiff, Int.reduceEq, Nat.reduceEqDiff, H4Fs60])
  have x0 : Ext h (h.push (.cells #[.slice m.a m.casts.length m.ca, .slice m.b m.waits.length m.cb, .int .i64 m.lo, .int .i64 m.hi] 24)) := (Ext.refl h).push _
  refine CallsH.mono (chk23 m _ (hm.ext x0)) ?_
  rintro v h1 ⟨rfl, x1⟩
  have hb1 := x1.get (push_new (h := h))
  have y1 := x0.trans x1
  by_cases hc : chk m = 0
  · have e1 : opn m [x] = if 0 ≤ x ∧ x ≤ (m.casts.length : Int) - 1 then 0 else 2 := by rw [opn, if_neg (by simpa using hc), inB_one]; simp
    simp only [hc, hb1, decide_true, Bool.not_true, coreS, Value.cells, Value.oneCell', Nat.reduceAdd, Nat.reduceSub, Nat.reduceMul, Nat.reduceLeDiff, Int.reduceEq, Nat.reduceEqDiff, H4Fs60]
    refine ⟨fun h1 => ⟨by rw [e1, if_neg (by omega)], y1⟩, fun h1 => ⟨fun h2 => ⟨by rw [e1, if_neg (by omega)], y1⟩, fun h2 => ⟨by rw [e1, if_pos (by omega)], y1⟩⟩⟩
  · have e1 : opn m [x] = chk m := by rw [opn, if_pos hc]
    simp only [hc, hb1, decide_false, Bool.not_false, coreS, Value.cells, Value.oneCell', Nat.reduceAdd, Nat.reduceSub, Nat.reduceMul, Nat.reduceLeDiff, Int.reduceEq, Nat.reduceEqDiff, H4Fs60]
    refine CallsH.mono (chk23 m _ (hm.ext y1)) ?_
    rintro v h2 ⟨rfl, x2⟩
    simp only [e1, coreS, Value.cells, Value.oneCell', Nat.reduceAdd, Nat.reduceSub, Nat.reduceMul, Nat.reduceLeDiff, Int.reduceEq, Nat.reduceEqDiff, H4Fs60]
    exact y1.trans x2
end Go.Proofs.YtafemfjhflfdeaaDoor
end
