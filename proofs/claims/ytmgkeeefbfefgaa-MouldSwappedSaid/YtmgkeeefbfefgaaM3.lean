/- Walks: CheckBook of the reference, Clash, loads. -/
import Derived.Test.YtmgkeeefbfefgaaM2
namespace Go.Proofs.Ytmgkeeefbfefgaa
open Go Go.Proofs Go.Eng Tab
set_option maxRecDepth 100000
set_option linter.unusedSimpArgs false
set_option linter.unusedVariables false
set_option maxHeartbeats 1000000
set_option linter.defProp false
def M3Fs23 := (And.intro (And.intro (And.intro (And.intro @agg22 @agg3) (And.intro @agg58 @by58)) (And.intro (And.intro @fo24_0 @fo24_1) (And.intro @fo24_2 @fo58_0))) (And.intro (And.intro (And.intro @fo58_1 @inf22) (And.intro @inf3 @inf58)) (And.intro (And.intro @sz22 @sz3) (And.intro @sz58 (And.intro @zero58 @Try.underlying22)))))
theorem check23 (S M : Int) (a : Option Addr) (n c : Nat) (ws : List Wn) (h : Eng.Heap) (hr : Row h a (wsV ws)) (hn : n = ws.length) (hl : n ≤ 1000000) :
    CallsH Try.prog 23 #[.agg #[.int .i64 S, .int .i64 M, .slice a n c]] h (fun v h' => v = .int .i64 (chk S M ws) ∧ Ext h h') := by
  have x0 : Ext h (h.push (.cells #[.int .i64 S, .int .i64 M, .slice a n c] 24)) := (Ext.refl h).push _
  have hb0 := push_new (h := h) (o := .cells #[.int .i64 S, .int .i64 M, .slice a n c] 24)
  have hr0 := hr.push (.cells #[.int .i64 S, .int .i64 M, .slice a n c] 24)
  (refine CallsH_of_exec Try.func23 rfl bod23 ?_; simp only [Try.ntmps23, Try.results23, coreS, stK_some, splice, Value.cells, Value.oneCell', Nat.reduceAdd, Nat.reduceSub, Nat.reduceMul, Nat.reduceLeDiff, Int.reduceEq, Nat.reduceEqDiff, M3Fs23])
  have key : ∀ {p : Int} {q : Prop}, chk S M ws = p → q → Value.int .i64 p = Value.int .i64 (chk S M ws) ∧ q := fun h hq => ⟨by rw [h], hq⟩
  have six : ¬ (1 ≤ S ∧ S ≤ 6) ∨ ¬ (1 ≤ M ∧ M ≤ 6) ∨ 14 < ws.length → chk S M ws = 6 := fun h => by unfold chk; rw [if_pos h]
  refine ⟨fun h1 => key (six (by omega)) x0, fun h1 => ⟨fun h2 => key (six (by omega)) x0, fun h2 => ⟨fun h3 => key (six (by omega)) x0, fun h3 => ⟨fun h4 => key (six (by omega)) x0, fun h4 => ⟨fun h5 => key (six (by omega)) x0, fun h5 => ?_⟩⟩⟩⟩⟩
  have three : ∀ i, i < ws.length → ¬ okW S M (wAt ws i) → chk S M ws = 3 := fun i hi hno => by
    unfold chk
    rw [if_neg (by omega), if_neg]
    exact fun hall => hno (hall _ (wAt_mem hi))
  generalize h.push (.cells #[.int .i64 S, .int .i64 M, .slice a n c] 24) = hh at x0 hb0 hr0 ⊢
  refine WP_loopI [2, 3, 4, 29, 30, 31, 32, 33, 34, 35, 36, 37, 38, 39, 40, 41, 42, 43, 44, 45, 46, 47, 48, 49, 50, 51, 52, 53, 54, 55, 56, 57, 58, 59, 60, 61, 62] (fun g h' => Ext hh h' ∧ ∃ i : Nat, i ≤ n ∧ g 3 = .int .i64 i ∧ (∀ j < i, okW S M (wAt ws j))) (fun g _ => match g 3 with | .int _ m => n - m.toNat | _ => 0) ?_ ?_
  · exact ⟨Ext.refl _, 0, by omega, rfl, fun j hj => by omega⟩
  · rintro g h' ⟨x, i, hin, hg, hno⟩
    have hb := x.get hb0
    have y := x0.trans x
    by_cases hi : i < ws.length
    · have hc := rowW (hr0.ext x) hi
      have hsm := rowW_some hr hi
      have hne : ¬ (h.size = h'.size) := by have := lt_of_get hb; omega
      have hlt : (i : Int) < (n : Int) := by omega
      simp only [hg, hb, hc, hne, hlt, decide_true, if_false, coreS, stK_some, splice, Value.cells, Value.oneCell', Nat.reduceAdd, Nat.reduceSub, Nat.reduceMul, Nat.reduceLeDiff, Int.reduceEq, Nat.reduceEqDiff, M3Fs23]
      refine ⟨by omega, hsm, ?_⟩
      have y' := y.push (.cells #[.int .i64 (wAt ws i).s, .int .i64 (wAt ws i).m] 58)
      refine ⟨fun g1 => key (three i hi (by unfold okW; omega)) y', fun g1 => ⟨fun g2 => key (three i hi (by unfold okW; omega)) y', fun g2 => ⟨fun g3 => key (three i hi (by unfold okW; omega)) y', fun g3 => ⟨fun g4 => key (three i hi (by unfold okW; omega)) y', fun g4 => ?_⟩⟩⟩⟩
      refine ⟨by rw [inK_i64]; omega, roundK_mk (by kernel_rfl) ⟨x.push _, i + 1, by omega, rfl, fun j hj => ?_⟩ ?_⟩
      · by_cases hji : j = i
        · subst hji; unfold okW; omega
        · exact hno j (by omega)
      · show n - ((i : Int) + 1).toNat < n - (i : Int).toNat
        omega
    · have hlt : ¬ ((i : Int) < (n : Int)) := by omega
      simp only [hg, hb, hlt, decide_false, coreS, Value.cells, Value.oneCell', Nat.reduceAdd, Nat.reduceSub, Nat.reduceMul, Nat.reduceLeDiff, Int.reduceEq, Nat.reduceEqDiff, M3Fs23]
      refine key ?_ y
      unfold chk
      rw [if_neg (by omega), if_pos]
      intro w hw
      obtain ⟨j, hj, rfl⟩ := mem_wAt hw
      exact hno j (by omega)
end Go.Proofs.Ytmgkeeefbfefgaa
