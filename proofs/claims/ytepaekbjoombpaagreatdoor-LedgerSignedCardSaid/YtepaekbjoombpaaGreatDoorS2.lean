/- Walks: signs of texts, and of lines. -/
import Derived.Test.YtepaekbjoombpaaGreatDoorS1
import Derived.Test.YtepaekbjoombpaaGreatDoorEngK
namespace Go.Proofs.YtepaekbjoombpaaGreatDoor
open Go Go.Proofs Go.Eng Tab Go.RowKit
set_option maxRecDepth 100000
set_option linter.unusedSimpArgs false
set_option linter.unusedVariables false
set_option maxHeartbeats 2000000
set_option linter.defProp false
def S2Fs85 := (And.intro (And.intro (And.intro @by3 @inf3) (And.intro @sz3 @zero3)) (And.intro (And.intro @Tryz.underlying3 @Tryz.underlying5) (And.intro @Tryz.underlying9 @Tryz.underlying40)))
def sgn (s : ByteArray) : ByteArray × Int := if 12 < s.size then (⟨#[]⟩, 7) else if text s then (signS s, 0) else (⟨#[]⟩, 8)
def sgnV (s : ByteArray) : Value := .tuple #[.string (sgn s).1, .int .i64 (sgn s).2]
theorem sign34 (s : ByteArray) (h : Eng.Heap) (hs : s.size ≤ 9223372036854775807) : CallsH Tryz.prog 34 #[.string s] h (fun v h' => v = sgnV s ∧ Ext h h') := by
  (refine CallsH_of_exec Tryz.func34 rfl bod34 ?_; simp only [Tryz.ntmps34, Tryz.results34, coreS, stK_some, splice, Value.cells, Value.oneCell', Nat.reduceAdd, Nat.reduceSub, Nat.reduceMul, Nat.reduceLeDiff, Int.reduceEq, Nat.reduceEqDiff, Tryz.underlying9])
  by_cases hl : 12 < s.size
  · have hl2 : (12 : Int) < s.size := by omega
    simp only [hl2, decide_true, coreS, Value.cells, Value.oneCell', Nat.reduceAdd, Nat.reduceSub, Nat.reduceMul, Nat.reduceLeDiff, Int.reduceEq, Nat.reduceEqDiff, Tryz.underlying9]
    exact ⟨by rw [sgnV, sgn, if_pos hl], Ext.refl h⟩
  · have hl2 : ¬ (12 : Int) < s.size := by omega
    simp only [hl2, decide_false, coreS, Value.cells, Value.oneCell', Nat.reduceAdd, Nat.reduceSub, Nat.reduceMul, Nat.reduceLeDiff, Int.reduceEq, Nat.reduceEqDiff, Tryz.underlying9]
    refine CallsH.mono (isText82 s h hs) ?_
    rintro v h1 ⟨rfl, x1⟩
    cases ht : text s with
    | false =>
      simp only [Bool.not_false, coreS, Value.cells, Value.oneCell', Nat.reduceAdd, Nat.reduceSub, Nat.reduceMul, Nat.reduceLeDiff, Int.reduceEq, Nat.reduceEqDiff, Tryz.underlying9]
      exact ⟨by rw [sgnV, sgn, if_neg hl, ht]; rfl, x1⟩
    | true =>
      simp only [Bool.not_true, coreS, Value.cells, Value.oneCell', Nat.reduceAdd, Nat.reduceSub, Nat.reduceMul, Nat.reduceLeDiff, Int.reduceEq, Nat.reduceEqDiff, Tryz.underlying9]
      refine CallsH.mono (sign83 s h1 ht) ?_
      rintro v h2 ⟨rfl, x2⟩
      simp only [coreS, Value.cells, Value.oneCell', Nat.reduceAdd, Nat.reduceSub, Nat.reduceMul, Nat.reduceLeDiff, Int.reduceEq, Nat.reduceEqDiff, Tryz.underlying9]
      exact ⟨by rw [sgnV, sgn, if_neg hl, ht]; rfl, x1.trans x2⟩
theorem sign35 (s : ByteArray) (h : Eng.Heap) (hs : s.size ≤ 9223372036854775807) : CallsH Tryz.prog 35 #[.string s] h (fun v h' => v = sgnV s ∧ h' = h) := by
  (refine CallsH_of_exec Tryz.func35 rfl bod35 ?_; simp only [Tryz.ntmps35, Tryz.results35, coreS, stK_some, splice, Value.cells, Value.oneCell', Nat.reduceAdd, Nat.reduceSub, Nat.reduceMul, Nat.reduceLeDiff, Int.reduceEq, Nat.reduceEqDiff, Tryz.underlying9])
  by_cases hl : 12 < s.size
  · have hl2 : (12 : Int) < s.size := by omega
    simp only [hl2, decide_true, coreS, Value.cells, Value.oneCell', Nat.reduceAdd, Nat.reduceSub, Nat.reduceMul, Nat.reduceLeDiff, Int.reduceEq, Nat.reduceEqDiff, Tryz.underlying9]
    rw [sgnV, sgn, if_pos hl]
  · have hl2 : ¬ (12 : Int) < s.size := by omega
    simp only [hl2, decide_false, coreS, Value.cells, Value.oneCell', Nat.reduceAdd, Nat.reduceSub, Nat.reduceMul, Nat.reduceLeDiff, Int.reduceEq, Nat.reduceEqDiff, Tryz.underlying9]
    refine CallsH.mono (isText84 s h hs) ?_
    rintro v h1 ⟨rfl, rfl⟩
    cases ht : text s with
    | false =>
      simp only [Bool.not_false, coreS, Value.cells, Value.oneCell', Nat.reduceAdd, Nat.reduceSub, Nat.reduceMul, Nat.reduceLeDiff, Int.reduceEq, Nat.reduceEqDiff, Tryz.underlying9]
      rw [sgnV, sgn, if_neg hl, ht]; rfl
    | true =>
      simp only [Bool.not_true, coreS, Value.cells, Value.oneCell', Nat.reduceAdd, Nat.reduceSub, Nat.reduceMul, Nat.reduceLeDiff, Int.reduceEq, Nat.reduceEqDiff, Tryz.underlying9]
      refine CallsH.mono (signOf46 s h1 ht) ?_
      rintro v h2 ⟨rfl, rfl⟩
      simp only [coreS, Value.cells, Value.oneCell', Nat.reduceAdd, Nat.reduceSub, Nat.reduceMul, Nat.reduceLeDiff, Int.reduceEq, Nat.reduceEqDiff, Tryz.underlying9]
      rw [sgnV, sgn, if_neg hl, ht]; rfl
/-- A byte of a string. -/
def at_ (s : ByteArray) (i : Nat) : Nat := (s.data.getD i 0).toNat
/-- A line: a text, a blank, a sign. -/
def lineOK (s : ByteArray) : Bool := decide (3 ≤ s.size) && text (s.extract 0 (s.size - 2)) && decide (at_ s (s.size - 2) = 32) && decide (97 ≤ at_ s (s.size - 1)) && decide (at_ s (s.size - 1) ≤ 109)
theorem bang (s : ByteArray) (i : Nat) (hi : i < s.size) : (s.data[i]!).toNat = at_ s i := by
  have hi' : i < s.data.size := hi
  rw [at_, getElem!_pos s.data i hi', Array.getD_eq_getD_getElem?, Array.getElem?_eq_getElem hi', Option.getD_some]
theorem ex_size (s : ByteArray) (i j : Nat) (h : i ≤ j) (hj : j ≤ s.size) : (s.extract i j).size = j - i := by
  rw [ByteArray.size_extract]; omega
theorem text_size {s : ByteArray} (h : text s = true) : 1 ≤ s.size ∧ s.size ≤ 12 := ((text_iff s).1 h).1
theorem lineOK_iff (s : ByteArray) : lineOK s = true ↔ 3 ≤ s.size ∧ text (s.extract 0 (s.size - 2)) = true ∧ at_ s (s.size - 2) = 32 ∧ 97 ≤ at_ s (s.size - 1) ∧ at_ s (s.size - 1) ≤ 109 := by
  simp only [lineOK, Bool.and_eq_true, decide_eq_true_eq, and_assoc]
/-- The last blank of a line. -/
theorem lineOK_last {s : ByteArray} (h : lineOK s = true) : Lib.lastIndexByte s 32 = ((s.size - 2 : Nat) : Int) := by
  obtain ⟨h3, _, hb, h97, _⟩ := (lineOK_iff s).1 h
  obtain ⟨n, hn⟩ : ∃ n, s.size = n + 2 := ⟨s.size - 2, by omega⟩
  rw [hn] at hb h97 ⊢
  rw [Lib.lastIndexByte, hn, Lib.lastIdx_miss _ _ _ (by rw [bang s _ (by omega)]; have : n + 2 - 1 = n + 1 := by omega
                                                        rw [this] at h97; omega), Lib.lastIdx_hit _ _ _ (by rw [bang s _ (by omega)]; have : n + 2 - 2 = n := by omega
                                                                                                            rw [this] at hb; omega)]
  rfl
theorem cut85 (s : ByteArray) (h : Eng.Heap) (hs : s.size ≤ 14) : CallsH Tryz.prog 85 #[.string s] h (fun v h' => v = (if lineOK s then .tuple #[.string (s.extract 0 (s.size - 2)), .string (s.extract (s.size - 1) s.size), .bool true] else .tuple #[.string ⟨#[]⟩, .string ⟨#[]⟩, .bool false]) ∧ Ext h h') := by
  (refine CallsH_of_exec Tryz.func85 rfl bod85 ?_; simp only [Tryz.ntmps85, Tryz.results85, coreS, stK_some, splice, Value.cells, Value.oneCell', Nat.reduceAdd, Nat.reduceSub, Nat.reduceMul, Nat.reduceLeDiff, Int.reduceEq, Nat.reduceEqDiff, S2Fs85])
  refine CallsH.mono (last116 s 32 h (by omega)) ?_
  rintro v h1 ⟨rfl, rfl⟩
  have no : ∀ {h2 : Eng.Heap}, lineOK s = false → Ext h1 h2 → (Value.tuple #[.string ⟨#[]⟩, .string ⟨#[]⟩, .bool false] = (if lineOK s then .tuple #[.string (s.extract 0 (s.size - 2)), .string (s.extract (s.size - 1) s.size), .bool true] else .tuple #[.string ⟨#[]⟩, .string ⟨#[]⟩, .bool false]) ∧ Ext h1 h2) := fun e x => ⟨by rw [e]; rfl, x⟩
  rcases Lib.lastIndexByte_spec s 32 with ⟨hL, _⟩ | ⟨i, hi, hL, hbl, _⟩
  · have hf : lineOK s = false := by
      rw [Bool.eq_false_iff]
      intro hh
      have := lineOK_last hh
      rw [hL] at this
      omega
    have hneg : (-1 : Int) < 0 := by decide
    simp only [hL, hneg, gd_none, decide_true, coreS, Value.cells, Value.oneCell', Nat.reduceAdd, Nat.reduceSub, Nat.reduceMul, Nat.reduceLeDiff, Int.reduceEq, Nat.reduceEqDiff, S2Fs85]
    exact no hf (Ext.refl _)
  · have hneg : ¬ (i : Int) < 0 := by omega
    by_cases hn : (s.size : Int) = (i : Int) + 2
    · obtain rfl : i = s.size - 2 := by omega
      have e1 : ((s.size - 2 : Nat) : Int) + 1 = ((s.size - 1 : Nat) : Int) := by omega
      rw [bang s _ hi] at hbl
      simp only [hL, hneg, hn, gd_none, Int.toNat_natCast, decide_true, decide_false, Bool.not_true, coreS, Value.cells, Value.oneCell', Nat.reduceAdd, Nat.reduceSub, Nat.reduceMul, Nat.reduceLeDiff, Int.reduceEq, Nat.reduceEqDiff, S2Fs85]
      refine ⟨by rw [inK_i64]; omega, by decide, by omega, by omega, ?_⟩
      have z0 : ((0 : Nat) : Int).toNat = 0 := rfl
      have hx : (s.extract 0 (s.size - 2)).size ≤ 14 := by rw [ex_size _ _ _ (by omega) (by omega)]; omega
      refine CallsH.mono (isText82 (s.extract 0 (s.size - 2)) h1 (by omega)) ?_
      rintro v h2 ⟨rfl, x2⟩
      cases ht : text (s.extract 0 (s.size - 2)) with
      | false =>
        have hf : lineOK s = false := by rw [lineOK, ht]; simp
        simp only [gd_none, Bool.not_false, coreS, Value.cells, Value.oneCell', Nat.reduceAdd, Nat.reduceSub, Nat.reduceMul, Nat.reduceLeDiff, Int.reduceEq, Nat.reduceEqDiff, S2Fs85]
        exact no hf x2
      | true =>
        have h3 : 3 ≤ s.size := by
          have := text_size ht
          rw [ex_size _ _ _ (by omega) (by omega)] at this
          omega
        have hat : (s.data.getD (s.size - 1) 0).toNat = at_ s (s.size - 1) := rfl
        simp only [e1, hat, Int.toNat_natCast, Bool.not_true, coreS, Value.cells, Value.oneCell', Nat.reduceAdd, Nat.reduceSub, Nat.reduceMul, Nat.reduceLeDiff, Int.reduceEq, Nat.reduceEqDiff, S2Fs85]
        have hlt := (s.data.getD (s.size - 1) 0).toNat_lt
        rw [hat] at hlt
        refine ⟨by rw [inK_i64]; omega, ⟨by omega, by omega⟩, by rw [inK_i64]; omega, ?_⟩
        refine CallsH.mono (within71 97 109 (some ⟨h2.size, 0, none⟩) 1 1 [(at_ s (s.size - 1) : Int)] _ (intsV_one push_new) (by omega)) ?_
        rintro v h4 ⟨rfl, x4⟩
        have x4' := x2.trans x4.of_push
        have e0 : ((s.size : Nat) : Int) - 2 = ((s.size - 2 : Nat) : Int) := by omega
        by_cases hw : 97 ≤ (at_ s (s.size - 1) : Int) ∧ (at_ s (s.size - 1) : Int) ≤ 109
        · have hok : lineOK s = true := (lineOK_iff s).2 ⟨h3, ht, by omega, by omega, by omega⟩
          simp only [inB_one, hw, decide_true, Bool.not_true, coreS, Value.cells, Value.oneCell', Nat.reduceAdd, Nat.reduceSub, Nat.reduceMul, Nat.reduceLeDiff, Int.reduceEq, Nat.reduceEqDiff, S2Fs85]
          refine WP_draw (by kernel_rfl) sta_eq [(0, 0), (1, 0), (2, 0), (3, 0), (4, 0), (5, 0), (6, 0), (7, 0), (8, 0), (9, 0)] (by kernel_rfl) rfl (by kernel_rfl) ?_
          simp only [e1, Int.toNat_natCast, coreS, Value.cells, Value.oneCell', Nat.reduceAdd, Nat.reduceSub, Nat.reduceMul, Nat.reduceLeDiff, Int.reduceEq, Nat.reduceEqDiff, drawS, S2Fs85]
          exact ⟨by decide, by omega, by omega, by rw [inK_i64]; omega, by omega, by omega, by omega, by rw [hok]; rfl, x4'⟩
        · have hf : lineOK s = false := by
            rw [Bool.eq_false_iff]
            intro hh
            have := ((lineOK_iff s).1 hh).2.2.2
            exact hw ⟨by omega, by omega⟩
          simp only [inB_one, hw, decide_false, Bool.not_false, coreS, Value.cells, Value.oneCell', Nat.reduceAdd, Nat.reduceSub, Nat.reduceMul, Nat.reduceLeDiff, Int.reduceEq, Nat.reduceEqDiff, S2Fs85]
          exact no hf x4'
    · have hf : lineOK s = false := by
        rw [Bool.eq_false_iff]
        intro hh
        have h2 := lineOK_last hh
        have h3 := ((lineOK_iff s).1 hh).1
        rw [hL] at h2
        omega
      simp only [hL, hneg, hn, gd_none, decide_false, Bool.not_false, coreS, Value.cells, Value.oneCell', Nat.reduceAdd, Nat.reduceSub, Nat.reduceMul, Nat.reduceLeDiff, Int.reduceEq, Nat.reduceEqDiff, S2Fs85]
      exact ⟨by rw [inK_i64]; omega, no hf (Ext.refl _)⟩
theorem line86 (s : ByteArray) (h : Eng.Heap) (hs : s.size ≤ 14) : CallsH Tryz.prog 86 #[.string s] h (fun v h' => v = .bool (lineOK s) ∧ h' = h) := by
  (refine CallsH_of_exec Tryz.func86 rfl bod86 ?_; simp only [Tryz.ntmps86, Tryz.results86, coreS, stK_some, splice, Value.cells, Value.oneCell', Nat.reduceAdd, Nat.reduceSub, Nat.reduceMul, Nat.reduceLeDiff, Int.reduceEq, Nat.reduceEqDiff, Tryz.underlying9])
  by_cases h3 : 3 ≤ s.size
  · have h3' : (3 : Int) ≤ s.size := by omega
    have e2 : ((s.size : Nat) : Int) - 2 = ((s.size - 2 : Nat) : Int) := by omega
    have e1 : ((s.size : Nat) : Int) - 1 = ((s.size - 1 : Nat) : Int) := by omega
    simp only [h3', e1, e2, gd_none, decide_true, Int.toNat_natCast, coreS, Value.cells, Value.oneCell', Nat.reduceAdd, Nat.reduceSub, Nat.reduceMul, Nat.reduceLeDiff, Int.reduceEq, Nat.reduceEqDiff, Tryz.underlying9]
    refine ⟨by rw [inK_i64]; omega, by decide, by omega, by omega, ?_⟩
    have hx : (s.extract 0 (s.size - 2)).size ≤ 14 := by rw [ex_size _ _ _ (by omega) (by omega)]; omega
    refine CallsH.mono (isText84 (s.extract 0 (s.size - 2)) h (by omega)) ?_
    rintro v h1 ⟨rfl, rfl⟩
    cases ht : text (s.extract 0 (s.size - 2)) with
    | false =>
      have hf : lineOK s = false := by rw [lineOK, ht]; simp
      simp only [hf, gd_none, coreS, Value.cells, Value.oneCell', Nat.reduceAdd, Nat.reduceSub, Nat.reduceMul, Nat.reduceLeDiff, Int.reduceEq, Nat.reduceEqDiff, Tryz.underlying9]
    | true =>
      have ha2 : (s.data.getD (s.size - 2) 0).toNat = at_ s (s.size - 2) := rfl
      have ha1 : (s.data.getD (s.size - 1) 0).toNat = at_ s (s.size - 1) := rfl
      by_cases hb : (at_ s (s.size - 2) : Int) = 32
      · by_cases h97 : (97 : Int) ≤ (at_ s (s.size - 1) : Int)
        · have hd : lineOK s = decide ((at_ s (s.size - 1) : Int) ≤ 109) := by
            rw [Bool.eq_iff_iff, lineOK_iff, decide_eq_true_eq]
            exact ⟨fun hh => by omega, fun hh => ⟨h3, ht, by omega, by omega, by omega⟩⟩
          rw [hd]
          simp only [e1, e2, ha1, ha2, hb, h97, gd_none, decide_true, Int.toNat_natCast, coreS, Value.cells, Value.oneCell', Nat.reduceAdd, Nat.reduceSub, Nat.reduceMul, Nat.reduceLeDiff, Int.reduceEq, Nat.reduceEqDiff, Tryz.underlying9]
          refine ⟨by rw [inK_i64]; omega, ⟨by omega, by omega⟩, by rw [inK_i64]; omega, ⟨by omega, by omega⟩, by rw [inK_i64]; omega, by omega, by omega⟩
        · have hf : lineOK s = false := by
            rw [Bool.eq_false_iff]
            intro hh
            have := ((lineOK_iff s).1 hh).2.2.2.1
            omega
          simp only [e1, e2, ha1, ha2, hb, h97, hf, gd_none, decide_true, decide_false, Int.toNat_natCast, coreS, Value.cells, Value.oneCell', Nat.reduceAdd, Nat.reduceSub, Nat.reduceMul, Nat.reduceLeDiff, Int.reduceEq, Nat.reduceEqDiff, Tryz.underlying9]
          refine ⟨by rw [inK_i64]; omega, ⟨by omega, by omega⟩, by rw [inK_i64]; omega, by omega, by omega⟩
      · have hf : lineOK s = false := by
          rw [Bool.eq_false_iff]
          intro hh
          have := ((lineOK_iff s).1 hh).2.2.1
          omega
        simp only [e2, ha2, hb, hf, gd_none, decide_false, Int.toNat_natCast, coreS, Value.cells, Value.oneCell', Nat.reduceAdd, Nat.reduceSub, Nat.reduceMul, Nat.reduceLeDiff, Int.reduceEq, Nat.reduceEqDiff, Tryz.underlying9]
        exact ⟨by rw [inK_i64]; omega, by omega, by omega⟩
  · have h3' : ¬ (3 : Int) ≤ s.size := by omega
    have hf : lineOK s = false := by rw [lineOK, decide_eq_false h3]; rfl
    simp only [h3', hf, gd_none, decide_false, coreS, Value.cells, Value.oneCell', Nat.reduceAdd, Nat.reduceSub, Nat.reduceMul, Nat.reduceLeDiff, Int.reduceEq, Nat.reduceEqDiff, Tryz.underlying9]
/-- The error of a line. -/
def lineE (s : ByteArray) : Int := if 14 < s.size then 7 else if lineOK s then (if s.extract (s.size - 1) s.size = signS (s.extract 0 (s.size - 2)) then 0 else 14) else 8
theorem check36 (s : ByteArray) (h : Eng.Heap) : CallsH Tryz.prog 36 #[.string s] h (fun v h' => v = .int .i64 (lineE s) ∧ Ext h h') := by
  (refine CallsH_of_exec Tryz.func36 rfl bod36 ?_; simp only [Tryz.ntmps36, Tryz.results36, coreS, stK_some, splice, Value.cells, Value.oneCell', Nat.reduceAdd, Nat.reduceSub, Nat.reduceMul, Nat.reduceLeDiff, Int.reduceEq, Nat.reduceEqDiff, Tryz.underlying9])
  by_cases hl : 14 < s.size
  · have hl2 : (14 : Int) < s.size := by omega
    simp only [hl2, decide_true, coreS, Value.cells, Value.oneCell', Nat.reduceAdd, Nat.reduceSub, Nat.reduceMul, Nat.reduceLeDiff, Int.reduceEq, Nat.reduceEqDiff, Tryz.underlying9]
    exact ⟨by rw [lineE, if_pos hl], Ext.refl h⟩
  · have hl2 : ¬ (14 : Int) < s.size := by omega
    simp only [hl2, decide_false, coreS, Value.cells, Value.oneCell', Nat.reduceAdd, Nat.reduceSub, Nat.reduceMul, Nat.reduceLeDiff, Int.reduceEq, Nat.reduceEqDiff, Tryz.underlying9]
    refine CallsH.mono (cut85 s h (by omega)) ?_
    rintro v h1 ⟨rfl, x1⟩
    cases ho : lineOK s with
    | false =>
      simp only [Bool.false_eq_true, if_false, Bool.not_false, coreS, Value.cells, Value.oneCell', Nat.reduceAdd, Nat.reduceSub, Nat.reduceMul, Nat.reduceLeDiff, Int.reduceEq, Nat.reduceEqDiff, Tryz.underlying9]
      exact ⟨by rw [lineE, if_neg hl, ho]; rfl, x1⟩
    | true =>
      simp only [if_true, Bool.not_true, coreS, Value.cells, Value.oneCell', Nat.reduceAdd, Nat.reduceSub, Nat.reduceMul, Nat.reduceLeDiff, Int.reduceEq, Nat.reduceEqDiff, Tryz.underlying9]
      refine CallsH.mono (sign83 _ h1 ((lineOK_iff s).1 ho).2.1) ?_
      rintro v h2 ⟨rfl, x2⟩
      by_cases he : s.extract (s.size - 1) s.size = signS (s.extract 0 (s.size - 2))
      · simp only [he, decide_true, Bool.not_true, coreS, Value.cells, Value.oneCell', Nat.reduceAdd, Nat.reduceSub, Nat.reduceMul, Nat.reduceLeDiff, Int.reduceEq, Nat.reduceEqDiff, Tryz.underlying9]
        exact ⟨by rw [lineE, if_neg hl, ho, if_pos rfl, if_pos he], x1.trans x2⟩
      · simp only [he, decide_false, Bool.not_false, coreS, Value.cells, Value.oneCell', Nat.reduceAdd, Nat.reduceSub, Nat.reduceMul, Nat.reduceLeDiff, Int.reduceEq, Nat.reduceEqDiff, Tryz.underlying9]
        exact ⟨by rw [lineE, if_neg hl, ho, if_pos rfl, if_neg he], x1.trans x2⟩
theorem check37 (s : ByteArray) (h : Eng.Heap) : CallsH Tryz.prog 37 #[.string s] h (fun v h' => v = .int .i64 (lineE s) ∧ h' = h) := by
  (refine CallsH_of_exec Tryz.func37 rfl bod37 ?_; simp only [Tryz.ntmps37, Tryz.results37, coreS, stK_some, splice, Value.cells, Value.oneCell', Nat.reduceAdd, Nat.reduceSub, Nat.reduceMul, Nat.reduceLeDiff, Int.reduceEq, Nat.reduceEqDiff, Tryz.underlying9])
  by_cases hl : 14 < s.size
  · have hl2 : (14 : Int) < s.size := by omega
    simp only [hl2, decide_true, coreS, Value.cells, Value.oneCell', Nat.reduceAdd, Nat.reduceSub, Nat.reduceMul, Nat.reduceLeDiff, Int.reduceEq, Nat.reduceEqDiff, Tryz.underlying9]
    rw [lineE, if_pos hl]
  · have hl2 : ¬ (14 : Int) < s.size := by omega
    simp only [hl2, decide_false, coreS, Value.cells, Value.oneCell', Nat.reduceAdd, Nat.reduceSub, Nat.reduceMul, Nat.reduceLeDiff, Int.reduceEq, Nat.reduceEqDiff, Tryz.underlying9]
    refine CallsH.mono (line86 s h (by omega)) ?_
    rintro v h1 ⟨rfl, rfl⟩
    cases ho : lineOK s with
    | false =>
      simp only [Bool.not_false, coreS, Value.cells, Value.oneCell', Nat.reduceAdd, Nat.reduceSub, Nat.reduceMul, Nat.reduceLeDiff, Int.reduceEq, Nat.reduceEqDiff, Tryz.underlying9]
      rw [lineE, if_neg hl, ho]; rfl
    | true =>
      have h3 := ((lineOK_iff s).1 ho).1
      have e2 : ((s.size : Nat) : Int) - 2 = ((s.size - 2 : Nat) : Int) := by omega
      have e1 : ((s.size : Nat) : Int) - 1 = ((s.size - 1 : Nat) : Int) := by omega
      simp only [Bool.not_true, coreS, Value.cells, Value.oneCell', Nat.reduceAdd, Nat.reduceSub, Nat.reduceMul, Nat.reduceLeDiff, Int.reduceEq, Nat.reduceEqDiff, Tryz.underlying9]
      refine WP_tree (by kernel_rfl) sta_eq (.quiet 0 (.quiet 1 (.quiet 2 (.quiet 3 (.quiet 4 (.quiet 5 (.quiet 6 (.quiet 7 (.keep 8 (.quiet 9 (.fin))))))))))) (by kernel_rfl) rfl (by kernel_rfl) ?_
      simp only [e1, e2, Int.toNat_natCast, coreS, Value.cells, Value.oneCell', Nat.reduceAdd, Nat.reduceSub, Nat.reduceMul, Nat.reduceLeDiff, Int.reduceEq, Nat.reduceEqDiff, drawS, treeS, Tryz.underlying9]
      refine ⟨by rw [inK_i64]; omega, by omega, by omega, by omega, by rw [inK_i64]; omega, by decide, by omega, by omega, ?_⟩
      refine execT_keepE ?_
      simp only [coreS, Value.cells, Value.oneCell', Nat.reduceAdd, Nat.reduceSub, Nat.reduceMul, Nat.reduceLeDiff, Int.reduceEq, Nat.reduceEqDiff, drawS, treeS, Tryz.underlying9]
      refine CallsH.mono (signOf46 _ h1 ((lineOK_iff s).1 ho).2.1) ?_
      rintro v h2 ⟨rfl, rfl⟩
      refine ⟨rfl, ?_⟩
      simp only [coreS, Value.cells, Value.oneCell', Nat.reduceAdd, Nat.reduceSub, Nat.reduceMul, Nat.reduceLeDiff, Int.reduceEq, Nat.reduceEqDiff, drawS, treeS, Tryz.underlying9]
      by_cases he : s.extract (s.size - 1) s.size = signS (s.extract 0 (s.size - 2))
      · simp only [he, decide_true, Bool.not_true, coreS, Value.cells, Value.oneCell', Nat.reduceAdd, Nat.reduceSub, Nat.reduceMul, Nat.reduceLeDiff, Int.reduceEq, Nat.reduceEqDiff, drawS, treeS, Tryz.underlying9]
        refine execT_finE ?_
        simp only [coreS, Value.cells, Value.oneCell', Nat.reduceAdd, Nat.reduceSub, Nat.reduceMul, Nat.reduceLeDiff, Int.reduceEq, Nat.reduceEqDiff, Tryz.underlying9]
        rw [lineE, if_neg hl, ho, if_pos rfl, if_pos he]
      · simp only [he, decide_false, Bool.not_false, coreS, Value.cells, Value.oneCell', Nat.reduceAdd, Nat.reduceSub, Nat.reduceMul, Nat.reduceLeDiff, Int.reduceEq, Nat.reduceEqDiff, drawS, treeS, Tryz.underlying9]
        refine execT_finE ?_
        simp only [coreS, Value.cells, Value.oneCell', Nat.reduceAdd, Nat.reduceSub, Nat.reduceMul, Nat.reduceLeDiff, Int.reduceEq, Nat.reduceEqDiff, Tryz.underlying9]
        rw [lineE, if_neg hl, ho, if_pos rfl, if_neg he]
end Go.Proofs.YtepaekbjoombpaaGreatDoor
