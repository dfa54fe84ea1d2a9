/- Walks: CheckBook, of the program and of the reference. -/
import Derived.Test.YtepaekbjoombpaaGreatDoorA2
namespace Go.Proofs.YtepaekbjoombpaaGreatDoor
open Go Go.Proofs Go.Eng Tab
set_option maxRecDepth 100000
set_option linter.unusedSimpArgs false
set_option linter.unusedVariables false
set_option maxHeartbeats 1000000
set_option linter.defProp false
def A3Fs25 := (And.intro (And.intro (And.intro @agg22 (And.intro @agg3 @by3)) (And.intro @fo24_0 (And.intro @fo24_1 @fo24_2))) (And.intro (And.intro @inf22 (And.intro @inf3 @sz22)) (And.intro (And.intro @sz3 @zero3) (And.intro @Tryz.underlying22 @Tryz.underlying40))))
noncomputable instance (es : List En) : Decidable (sortedE es) := Classical.propDecidable _
/-- What CheckBook returns. -/
noncomputable def chk (acc cl : Int) (es : List En) : Int :=
  if ¬ (2 ≤ acc ∧ acc ≤ 8) ∨ 20 < es.length then 6
  else if ¬ (0 ≤ cl ∧ cl ≤ 30) ∨ ¬ (∀ e ∈ es, okE acc e) then 3
  else if ¬ sortedE es ∨ ∃ e ∈ es, e.f = e.t then 16
  else 0
theorem check25 (acc cl : Int) (a : Option Addr) (n c : Nat) (es : List En) (h : Eng.Heap) (hr : Row h a (ensV es)) (hn : n = es.length) (hl : n ≤ 1000000) :
    CallsH Tryz.prog 25 #[.agg #[.int .i64 acc, .int .i64 cl, .slice a n c]] h (fun v h' => v = .int .i64 (chk acc cl es) ∧ Ext h h') := by
  refine CallsH_of_exec Tryz.func25 rfl bod25 ?_
  simp only [Tryz.ntmps25, Tryz.results25, coreS, stK_some, splice, Value.cells, Value.oneCell', Nat.reduceAdd, Nat.reduceSub, Nat.reduceMul, Nat.reduceLeDiff, Int.reduceEq, Nat.reduceEqDiff, A3Fs25]
  refine CallsH.mono (within71 2 8 _ 1 1 [acc] _ (intsV_one pn1) (by omega)) ?_
  rintro v h1 ⟨rfl, x1⟩
  have hb1 := x1.get pn0
  have y1 := x1.of_push.of_push
  by_cases ha : 2 ≤ acc ∧ acc ≤ 8
  · by_cases hm : 20 < (n : Int)
    · have hc : chk acc cl es = 6 := by unfold chk; rw [if_pos (.inr (by omega))]
      simp only [inB_one, ha, hb1, hm, hc, and_self, decide_true, Bool.not_true, coreS, Value.cells, Value.oneCell', Nat.reduceAdd, Nat.reduceSub, Nat.reduceMul, Nat.reduceLeDiff, Int.reduceEq, Nat.reduceEqDiff, A3Fs25]
      exact y1
    · simp only [inB_one, ha, hb1, hm, and_self, decide_true, decide_false, Bool.not_true, coreS, Value.cells, Value.oneCell', Nat.reduceAdd, Nat.reduceSub, Nat.reduceMul, Nat.reduceLeDiff, Int.reduceEq, Nat.reduceEqDiff, A3Fs25]
      refine CallsH.mono (within71 0 30 _ 1 1 [cl] _ (intsV_one push_new) (by omega)) ?_
      rintro v h2 ⟨rfl, x2⟩
      have hb2 := x2.of_push.get hb1
      have y2 := y1.trans x2.of_push
      by_cases hcl : 0 ≤ cl ∧ cl ≤ 30
      · simp only [inB_one, hcl, hb2, and_self, decide_true, Bool.not_true, coreS, Value.cells, Value.oneCell', Nat.reduceAdd, Nat.reduceSub, Nat.reduceMul, Nat.reduceLeDiff, Int.reduceEq, Nat.reduceEqDiff, A3Fs25]
        refine CallsH.mono (containsFunc76 a n c es 74 _ (fun e => !decide (okE acc e)) h2 (hr.ext y2) hn hl fun e _ h' x' => closure74 acc cl _ e _ h' (x'.get hb2) (by omega)) ?_
        rintro v h3 ⟨rfl, x3⟩
        have hb3 := x3.get hb2
        have y3 := y2.trans x3
        by_cases hall : ∀ e ∈ es, okE acc e
        · have hany : (es.any fun e => !decide (okE acc e)) = false := by
            rw [List.any_eq_false]; intro e he; simp [hall e he]
          simp only [hany, hb3, coreS, Value.cells, Value.oneCell', Nat.reduceAdd, Nat.reduceSub, Nat.reduceMul, Nat.reduceLeDiff, Int.reduceEq, Nat.reduceEqDiff, A3Fs25]
          refine CallsH.mono (isSorted77 a n c es h3 (hr.ext y3) hn hl fun e he => by have := (hall e he).1; omega) ?_
          rintro v h4 ⟨b, rfl, hb, x4⟩
          have hb4 := x4.get hb3
          have y4 := y3.trans x4
          cases b with
          | false =>
            have hs : ¬ sortedE es := fun hs => by have := hb.2 hs; cases this
            have hc : chk acc cl es = 16 := by
              unfold chk
              rw [if_neg (by omega), if_neg (by rintro (h | h); exact h hcl; exact h hall), if_pos (.inl hs)]
            simp only [hb4, hc, coreS, Value.cells, Value.oneCell', Nat.reduceAdd, Nat.reduceSub, Nat.reduceMul, Nat.reduceLeDiff, Int.reduceEq, Nat.reduceEqDiff, A3Fs25]
            exact y4
          | true =>
            have hs : sortedE es := hb.1 rfl
            simp only [hb4, coreS, Value.cells, Value.oneCell', Nat.reduceAdd, Nat.reduceSub, Nat.reduceMul, Nat.reduceLeDiff, Int.reduceEq, Nat.reduceEqDiff, A3Fs25]
            refine CallsH.mono (containsFunc76 a n c es 78 #[] (fun e => decide (e.f = e.t)) h4 (hr.ext y4) hn hl fun e _ h' x' => closure78 e h') ?_
            rintro v h5 ⟨rfl, x5⟩
            have y5 := y4.trans x5
            by_cases hex : ∃ e ∈ es, e.f = e.t
            · have hany2 : (es.any fun e => decide (e.f = e.t)) = true := by
                obtain ⟨e, he, h1⟩ := hex
                rw [List.any_eq_true]; exact ⟨e, he, by simp [h1]⟩
              have hc : chk acc cl es = 16 := by
                unfold chk
                rw [if_neg (by omega), if_neg (by rintro (h | h); exact h hcl; exact h hall), if_pos (.inr hex)]
              simp only [hany2, hc, coreS, Value.cells, Value.oneCell', Nat.reduceAdd, Nat.reduceSub, Nat.reduceMul, Nat.reduceLeDiff, Int.reduceEq, Nat.reduceEqDiff, A3Fs25]
              exact y5
            · have hany2 : (es.any fun e => decide (e.f = e.t)) = false := by
                rw [List.any_eq_false]; intro e he; simp; exact fun h1 => hex ⟨e, he, h1⟩
              have hc : chk acc cl es = 0 := by
                unfold chk
                rw [if_neg (by omega), if_neg (by rintro (h | h); exact h hcl; exact h hall), if_neg (by rintro (h | h); exact h hs; exact hex h)]
              simp only [hany2, hc, coreS, Value.cells, Value.oneCell', Nat.reduceAdd, Nat.reduceSub, Nat.reduceMul, Nat.reduceLeDiff, Int.reduceEq, Nat.reduceEqDiff, A3Fs25]
              exact y5
        · have hany : (es.any fun e => !decide (okE acc e)) = true := by
            rw [List.any_eq_true]
            simp only [Classical.not_forall] at hall
            obtain ⟨e, he, h1⟩ := hall
            exact ⟨e, he, by simp [h1]⟩
          have hc : chk acc cl es = 3 := by unfold chk; rw [if_neg (by omega), if_pos (.inr hall)]
          simp only [hany, hc, coreS, Value.cells, Value.oneCell', Nat.reduceAdd, Nat.reduceSub, Nat.reduceMul, Nat.reduceLeDiff, Int.reduceEq, Nat.reduceEqDiff, A3Fs25]
          exact y3
      · have hc : chk acc cl es = 3 := by unfold chk; rw [if_neg (by omega), if_pos (.inl hcl)]
        simp only [inB_one, hcl, hc, decide_false, Bool.not_false, coreS, Value.cells, Value.oneCell', Nat.reduceAdd, Nat.reduceSub, Nat.reduceMul, Nat.reduceLeDiff, Int.reduceEq, Nat.reduceEqDiff, A3Fs25]
        exact y2
  · have hc : chk acc cl es = 6 := by unfold chk; rw [if_pos (.inl ha)]
    simp only [inB_one, ha, hc, decide_false, Bool.not_false, coreS, Value.cells, Value.oneCell', Nat.reduceAdd, Nat.reduceSub, Nat.reduceMul, Nat.reduceLeDiff, Int.reduceEq, Nat.reduceEqDiff, A3Fs25]
    exact y1
end Go.Proofs.YtepaekbjoombpaaGreatDoor
