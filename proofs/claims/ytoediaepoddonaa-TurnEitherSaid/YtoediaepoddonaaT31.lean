/- Walks: CheckClash of the program. -/
import Derived.Test.YtoediaepoddonaaT30
namespace Go.Proofs.Ytoediaepoddonaa
open Go Go.Proofs Go.Eng Go.Run Tab
set_option maxRecDepth 100000
set_option linter.unusedSimpArgs false
set_option linter.unusedVariables false
set_option maxHeartbeats 1000000
theorem checkClash36m (shops : Int) (a : Option Addr) (n c : Nat) (xs : List Int) (one : Int) (h : Eng.Heap) (hv : IntsV h a n xs) (hl : n ≤ 1000000) :
    CallsH Try.prog 36 #[.int .i64 shops, .slice a n c, .int .i64 one, .int .i64 (-9223372036854775808)] h (fun v h' => v = .int .i64 (chkC shops xs one (-9223372036854775808)) ∧ Ext h h') := by
  have hn := hv.len
  refine CallsH_of_WP Try.func36 rfl bod36 ?_
  simp only [Try.ntmps36, Try.results36, coreS, Value.cells, Value.oneCell', Nat.reduceAdd, Nat.reduceSub, Nat.reduceMul, Nat.reduceLeDiff, Int.reduceEq, Nat.reduceEqDiff, by3, fps85_0, fps85_1, inf3, okf85, sz3, zero3, zero85, Try.underlying22]
  refine WP_seq (exec_sound _ _ _ _ _ ?_)
  simp only [coreS, Value.cells, Value.oneCell', Nat.reduceAdd, Nat.reduceSub, Nat.reduceMul, Nat.reduceLeDiff, Int.reduceEq, Nat.reduceEqDiff, by3, fps85_0, fps85_1, inf3, okf85, sz3, zero3, zero85, Try.underlying22]
  refine WP_seq (exec_sound _ _ _ _ _ ?_)
  simp only [coreS, Value.cells, Value.oneCell', Nat.reduceAdd, Nat.reduceSub, Nat.reduceMul, Nat.reduceLeDiff, Int.reduceEq, Nat.reduceEqDiff, by3, fps85_0, fps85_1, inf3, okf85, sz3, zero3, zero85, Try.underlying22]
  refine CallsH.mono (begun55 shops a n c xs h hv hl) ?_
  rintro v h1 ⟨x1, hb⟩
  rcases hb with ⟨h0, b, rfl, hb, hb2⟩ | ⟨hne, rfl⟩
  · have hch : chkC shops xs one (-9223372036854775808) = 2 := by rw [chkC, if_pos h0, if_neg (by omega)]
    simp only [h0, coreS, Value.cells, Value.oneCell', Nat.reduceAdd, Nat.reduceSub, Nat.reduceMul, Nat.reduceLeDiff, Int.reduceEq, Nat.reduceEqDiff, by3, fps85_0, fps85_1, inf3, okf85, sz3, zero3, zero85, Try.underlying22]
    refine WP_seq (WP_block (WP_seq (exec_sound _ _ _ _ _ ?_)))
    simp only [coreS, Value.cells, Value.oneCell', Nat.reduceAdd, Nat.reduceSub, Nat.reduceMul, Nat.reduceLeDiff, Int.reduceEq, Nat.reduceEqDiff, by3, fps85_0, fps85_1, inf3, okf85, sz3, zero3, zero85, Try.underlying22]
    refine WP_cond (b := false) rfl ?_
    simp only [Bool.false_eq_true, if_false]
    refine WP_seq (WP_regionJ 1 ?_)
    simp only [execJ]
    refine ⟨trivial, ?_⟩
    simp only [coreS, Value.cells, Value.oneCell', Nat.reduceAdd, Nat.reduceSub, Nat.reduceMul, Nat.reduceLeDiff, Int.reduceEq, Nat.reduceEqDiff, by3, fps85_0, fps85_1, inf3, okf85, sz3, zero3, zero85, Try.underlying22]
    refine sub_wrap rfl rfl ?_
    refine CallsH.mono (within60 0 _ _ 1 1 [one] _ intsV_one (by omega)) ?_
    rintro v h2 ⟨rfl, x2⟩
    have y2 := x1.trans x2.of_push
    cases hib : inB 0 (IntKind.i64.wrap (-9223372036854775808 - 1)) [one] with
    | true =>
      simp only [coreS, Value.cells, Value.oneCell', Nat.reduceAdd, Nat.reduceSub, Nat.reduceMul, Nat.reduceLeDiff, Int.reduceEq, Nat.reduceEqDiff, by3, fps85_0, fps85_1, inf3, okf85, sz3, zero3, zero85, Try.underlying22]
      refine ⟨by rw [inK_i64]; omega, ?_⟩
      refine CallsH.mono (within60 0 ((n : Int) - 1) _ 1 1 [-9223372036854775808] _ intsV_one (by omega)) ?_
      rintro v h3 ⟨rfl, x3⟩
      have y3 := y2.trans x3.of_push
      have hf : inB 0 ((n : Int) - 1) [-9223372036854775808] = false := inB_one'.2 (by omega)
      simp only [hf, coreS, Value.cells, Value.oneCell', Nat.reduceAdd, Nat.reduceSub, Nat.reduceMul, Nat.reduceLeDiff, Int.reduceEq, Nat.reduceEqDiff, by3, fps85_0, fps85_1, inf3, okf85, sz3, zero3, zero85, Try.underlying22]
      refine exec_sound _ _ _ _ _ ?_
      simp only [hch, coreS, Value.cells, Value.oneCell', Nat.reduceAdd, Nat.reduceSub, Nat.reduceMul, Nat.reduceLeDiff, Int.reduceEq, Nat.reduceEqDiff, by3, fps85_0, fps85_1, inf3, okf85, sz3, zero3, zero85, Try.underlying22]
      exact y3
    | false =>
      simp only [coreS, Value.cells, Value.oneCell', Nat.reduceAdd, Nat.reduceSub, Nat.reduceMul, Nat.reduceLeDiff, Int.reduceEq, Nat.reduceEqDiff, by3, fps85_0, fps85_1, inf3, okf85, sz3, zero3, zero85, Try.underlying22]
      refine exec_sound _ _ _ _ _ ?_
      simp only [hch, coreS, Value.cells, Value.oneCell', Nat.reduceAdd, Nat.reduceSub, Nat.reduceMul, Nat.reduceLeDiff, Int.reduceEq, Nat.reduceEqDiff, by3, fps85_0, fps85_1, inf3, okf85, sz3, zero3, zero85, Try.underlying22]
      exact y2
  · have hch : chkC shops xs one (-9223372036854775808) = begE shops xs := by rw [chkC, if_neg hne]
    simp only [coreS, Value.cells, Value.oneCell', Nat.reduceAdd, Nat.reduceSub, Nat.reduceMul, Nat.reduceLeDiff, Int.reduceEq, Nat.reduceEqDiff, by3, fps85_0, fps85_1, inf3, okf85, sz3, zero3, zero85, Try.underlying22]
    refine exec_sound _ _ _ _ _ ?_
    simp only [hne, hch, coreS, Value.cells, Value.oneCell', Nat.reduceAdd, Nat.reduceSub, Nat.reduceMul, Nat.reduceLeDiff, Int.reduceEq, Nat.reduceEqDiff, by3, fps85_0, fps85_1, inf3, okf85, sz3, zero3, zero85, Try.underlying22]
    exact x1
theorem checkClash36p (shops : Int) (a : Option Addr) (n c : Nat) (xs : List Int) (one two : Int) (h : Eng.Heap) (hv : IntsV h a n xs) (hl : n ≤ 1000000) (h2a : -9223372036854775808 < two) (h2b : two ≤ 9223372036854775807) :
    CallsH Try.prog 36 #[.int .i64 shops, .slice a n c, .int .i64 one, .int .i64 two] h (fun v h' => v = .int .i64 (chkC shops xs one two) ∧ Ext h h') := by
  have hn := hv.len
  refine CallsH_of_exec Try.func36 rfl bod36 ?_
  simp only [Try.ntmps36, Try.results36, coreS, stK_some, splice, Value.cells, Value.oneCell', Nat.reduceAdd, Nat.reduceSub, Nat.reduceMul, Nat.reduceLeDiff, Int.reduceEq, Nat.reduceEqDiff, by3, fps85_0, fps85_1, inf3, okf85, sz3, zero3, zero85, Try.underlying22]
  refine CallsH.mono (begun55 shops a n c xs h hv hl) ?_
  rintro v h1 ⟨x1, ⟨h0, b, rfl, hb, hb2⟩ | ⟨hne, rfl⟩⟩
  · obtain ⟨k, rfl, hk1, hk2, hxl, hz, hbf⟩ := begE_ok h0
    have hch : chkC k xs one two = if 0 ≤ one ∧ one < two ∧ two < xs.length then (if clashP k (codeF (List.range k) (natL xs)) one.toNat two.toNat then 0 else 14) else 2 := by rw [chkC, if_pos h0, Int.toNat_natCast]
    simp only [h0, coreS, Value.cells, Value.oneCell', Nat.reduceAdd, Nat.reduceSub, Nat.reduceMul, Nat.reduceLeDiff, Int.reduceEq, Nat.reduceEqDiff, by3, fps85_0, fps85_1, inf3, okf85, sz3, zero3, zero85, Try.underlying22]
    refine ⟨by rw [inK_i64]; omega, ?_⟩
    refine CallsH.mono (within60 0 (two - 1) _ 1 1 [one] _ intsV_one (by omega)) ?_
    rintro v h2 ⟨rfl, x2⟩
    have y2 := x1.trans x2.of_push
    by_cases hr : 0 ≤ one ∧ one ≤ two - 1
    · simp only [inB_one.2 hr, coreS, Value.cells, Value.oneCell', Nat.reduceAdd, Nat.reduceSub, Nat.reduceMul, Nat.reduceLeDiff, Int.reduceEq, Nat.reduceEqDiff, by3, fps85_0, fps85_1, inf3, okf85, sz3, zero3, zero85, Try.underlying22]
      refine ⟨by rw [inK_i64]; omega, ?_⟩
      refine CallsH.mono (within60 0 ((n : Int) - 1) _ 1 1 [two] _ intsV_one (by omega)) ?_
      rintro v h3 ⟨rfl, x3⟩
      have y3 := y2.trans x3.of_push
      by_cases hr2 : 0 ≤ two ∧ two ≤ (n : Int) - 1
      · rw [if_pos (by omega)] at hch
        obtain ⟨o, rfl⟩ : ∃ o : Nat, one = o := ⟨one.toNat, by omega⟩
        obtain ⟨t, rfl⟩ : ∃ t : Nat, two = t := ⟨two.toNat, by omega⟩
        have hv' := hv
        rw [← hz] at hv'
        simp only [inB_one.2 hr2, coreS, Value.cells, Value.oneCell', Nat.reduceAdd, Nat.reduceSub, Nat.reduceMul, Nat.reduceLeDiff, Int.reduceEq, Nat.reduceEqDiff, by3, fps85_0, fps85_1, inf3, okf85, sz3, zero3, zero85, Try.underlying22]
        have hbl := lt_of_get hb
        refine CallsH.mono (clashes68 b k n c a (natL xs) h3 h hk1 hk2 ((Rnd0.new hk1 hk2 hb).get ?_) y3 hb2 hbf hv' (by rw [natL_length]; omega)) ?_
        · rw [(x2.of_push.trans x3.of_push).old b hbl]
        rintro v h4 ⟨x4, mb, rfl, es, c4, M, hget⟩
        have hcl : (codeF (List.range k) (natL xs)).length = n := by rw [codeF_length, natL_length]; omega
        have hgp := hget (o, t)
        rw [Int.toNat_natCast, Int.toNat_natCast] at hch
        simp only [splice, coreS, Value.cells, Value.oneCell', Nat.reduceAdd, Nat.reduceSub, Nat.reduceMul, Nat.reduceLeDiff, Int.reduceEq, Nat.reduceEqDiff, by3, fps85_0, fps85_1, inf3, okf85, sz3, zero3, zero85, Try.underlying22]
        refine map_getT Try.underlying81 zero3 keysP M (a := (o, t)) (by rfl) (by rfl) ?_
        by_cases hcp : clashP k (codeF (List.range k) (natL xs)) o t
        · rw [if_pos ⟨⟨by show o < t; omega, by show t < _; omega⟩, hcp⟩] at hgp
          rw [if_pos hcp] at hch
          simp only [hgp, hch, if_true, Option.getD_some, Option.isSome_some, coreS, Value.cells, Value.oneCell', Nat.reduceAdd, Nat.reduceSub, Nat.reduceMul, Nat.reduceLeDiff, Int.reduceEq, Nat.reduceEqDiff, by3, fps85_0, fps85_1, inf3, okf85, sz3, zero3, zero85, Try.underlying22]
          exact x4
        · rw [if_neg (fun hh => hcp hh.2)] at hgp
          rw [if_neg hcp] at hch
          simp only [hgp, hch, if_true, Option.getD_none, Option.isSome_none, coreS, Value.cells, Value.oneCell', Nat.reduceAdd, Nat.reduceSub, Nat.reduceMul, Nat.reduceLeDiff, Int.reduceEq, Nat.reduceEqDiff, by3, fps85_0, fps85_1, inf3, okf85, sz3, zero3, zero85, Try.underlying22]
          exact x4
      · rw [if_neg (by omega)] at hch
        simp only [inB_one'.2 hr2, hch, coreS, Value.cells, Value.oneCell', Nat.reduceAdd, Nat.reduceSub, Nat.reduceMul, Nat.reduceLeDiff, Int.reduceEq, Nat.reduceEqDiff, by3, fps85_0, fps85_1, inf3, okf85, sz3, zero3, zero85, Try.underlying22]
        exact y3
    · rw [if_neg (by omega)] at hch
      simp only [inB_one'.2 hr, hch, coreS, Value.cells, Value.oneCell', Nat.reduceAdd, Nat.reduceSub, Nat.reduceMul, Nat.reduceLeDiff, Int.reduceEq, Nat.reduceEqDiff, by3, fps85_0, fps85_1, inf3, okf85, sz3, zero3, zero85, Try.underlying22]
      exact y2
  · simp only [hne, coreS, Value.cells, Value.oneCell', Nat.reduceAdd, Nat.reduceSub, Nat.reduceMul, Nat.reduceLeDiff, Int.reduceEq, Nat.reduceEqDiff, by3, fps85_0, fps85_1, inf3, okf85, sz3, zero3, zero85, Try.underlying22]
    exact ⟨by rw [chkC, if_neg hne], x1⟩
theorem checkClash36 (shops : Int) (a : Option Addr) (n c : Nat) (xs : List Int) (one two : Int) (h : Eng.Heap) (hv : IntsV h a n xs) (hl : n ≤ 1000000) (h2 : -9223372036854775808 ≤ two ∧ two ≤ 9223372036854775807) :
    CallsH Try.prog 36 #[.int .i64 shops, .slice a n c, .int .i64 one, .int .i64 two] h (fun v h' => v = .int .i64 (chkC shops xs one two) ∧ Ext h h') := by
  by_cases hm : two = -9223372036854775808
  · subst hm
    exact checkClash36m shops a n c xs one h hv hl
  · exact checkClash36p shops a n c xs one two h hv hl (by omega) h2.2
end Go.Proofs.Ytoediaepoddonaa
