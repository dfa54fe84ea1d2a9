/- MouldShorts returns true. -/
import Derived.Test.YtmgkeeefbfefgaaPDQM44
import Derived.Test.YtmgkeeefbfefgaaPDQM12
namespace Go.Proofs.Ytmgkeeefbfefgaa
open Go Go.Proofs Go.Eng Go.Run Tab
set_option maxRecDepth 100000
set_option linter.unusedSimpArgs false
set_option linter.unusedVariables false
set_option linter.defProp false
set_option maxHeartbeats 4000000
set_option linter.defProp false
def M45Fs5 := (And.intro (And.intro @agg24 @inf24) (And.intro @sz24 @Try.underlying25))
theorem ShP.n6 {s m : Nat} {ws : List Wn} {F : List Nat} (V : Vb s m ws) (P : ShP s m ws F) : F.length ≤ 6 := by
  have := up_len P.up fun t ht => (P.lt t ht).1
  have := V.s2
  omega
/-- What Short returns, at any book. -/
theorem short34R (S M : Int) (a : Option Addr) (n c : Nat) (ws : List Wn) (h : Eng.Heap) (hr : Row h a (wsV ws)) (hn : n = ws.length) (hl : n ≤ 1000000) :
    CallsH Try.prog 34 #[.agg #[.int .i64 S, .int .i64 M, .slice a n c]] h (fun v h' => (∃ aF cF F, v = .tuple #[.slice aF F.length cF, .int .i64 (sheE S M ws)] ∧ IntsV h' aF F.length (zsN F) ∧ F.length ≤ 6 ∧ (sheE S M ws ≠ 0 → F = []) ∧ (sheE S M ws = 0 → shoE S M ws (zsN F) = 0)) ∧ Ext h h') := by
  refine CallsH.mono (short34 S M a n c ws h hr hn hl) ?_
  rintro v h1 ⟨⟨s, m, rfl, rfl, V, F, P, hFe, hF⟩ | ⟨hc, rfl⟩, x1⟩
  · refine ⟨?_, x1⟩
    have e : sheE s m ws = if F = [] then 5 else 0 := by
      unfold sheE
      rw [if_neg (by simpa using V.chk), Int.toNat_natCast, Int.toNat_natCast]
      by_cases hf : F = []
      · rw [if_pos (hFe.2 hf), if_pos hf]
      · rw [if_neg (fun e => hf (hFe.1 e)), if_neg hf]
    rcases hF with ⟨h0, rfl⟩ | ⟨h0, aF, cF, rfl, I⟩
    · rw [if_pos h0] at e
      refine ⟨none, 0, [], by rw [e]; rfl, IntsV.nil _, by simp, fun _ => rfl, fun h => ?_⟩
      rw [e] at h; cases h
    · rw [if_neg h0] at e
      exact ⟨aF, cF, F, by rw [e], I, P.n6 V, fun h => absurd e h, fun _ => (sho_F V P h0 fun hh => h0 (hFe.1 hh)).1⟩
  · have e : sheE S M ws = chk S M ws := by unfold sheE; rw [if_pos hc]
    exact ⟨⟨none, 0, [], by rw [e]; rfl, IntsV.nil _, by simp, fun _ => rfl, fun h => absurd (e ▸ h) hc⟩, x1⟩
theorem shorts5 (S M : Int) (a : Option Addr) (n c : Nat) (ws : List Wn) (b : Option Addr) (m k : Nat) (xs : List Int) (h : Eng.Heap) (hr : Row h a (wsV ws)) (hn : n = ws.length) (hd : IntsV h b m xs) (hmk : m ≤ k) :
    CallsH Try.prog 5 #[.agg #[.int .i64 S, .int .i64 M, .slice a n c], .slice b m k] h (fun v h' => v = .bool true ∧ Ext h h') := by
  (refine CallsH_of_exec Try.func5 rfl bod5 ?_; simp only [Try.ntmps5, Try.results5, coreS, stK_some, splice, Value.cells, Value.oneCell', Nat.reduceAdd, Nat.reduceSub, Nat.reduceMul, Nat.reduceLeDiff, Int.reduceEq, Nat.reduceEqDiff, M45Fs5])
  have x0 : Ext h (h.push (.cells #[.int .i64 S, .int .i64 M, .slice a n c] 24)) := (Ext.refl h).push _
  have hb0 := push_new (h := h) (o := .cells #[.int .i64 S, .int .i64 M, .slice a n c] 24)
  generalize h.push (.cells #[.int .i64 S, .int .i64 M, .slice a n c] 24) = hh at x0 hb0 ⊢
  refine CallsH.mono (great15 S M a n c hh) ?_
  rintro v h1 ⟨rfl, x1⟩
  have out : ∀ h1, Ext h h1 → CallsH Try.prog 17 #[] h1 (fun v h' => v = .bool true ∧ Ext h h') := fun h1 x => CallsH.mono (works17 h1) fun v h' q => ⟨q.1, x.trans q.2⟩
  have y1 := x0.trans x1
  by_cases hg : 20 < (n : Int)
  · simp only [hg, decide_true, coreS, Value.cells, Value.oneCell', Nat.reduceAdd, Nat.reduceSub, Nat.reduceMul, Nat.reduceLeDiff, Int.reduceEq, Nat.reduceEqDiff, M45Fs5]
    refine CallsH.mono (out _ y1) ?_
    rintro v h2 ⟨rfl, x2⟩
    simp only [coreS, Value.cells, Value.oneCell', Nat.reduceAdd, Nat.reduceSub, Nat.reduceMul, Nat.reduceLeDiff, Int.reduceEq, Nat.reduceEqDiff, M45Fs5]
    exact x2
  simp only [hg, decide_false, coreS, Value.cells, Value.oneCell', Nat.reduceAdd, Nat.reduceSub, Nat.reduceMul, Nat.reduceLeDiff, Int.reduceEq, Nat.reduceEqDiff, M45Fs5]
  refine CallsH.mono (long16 b m k h1) ?_
  rintro v h2 ⟨rfl, rfl⟩
  by_cases hl : 24 < (m : Int)
  · simp only [hl, decide_true, coreS, Value.cells, Value.oneCell', Nat.reduceAdd, Nat.reduceSub, Nat.reduceMul, Nat.reduceLeDiff, Int.reduceEq, Nat.reduceEqDiff, M45Fs5]
    refine CallsH.mono (out _ y1) ?_
    rintro v h2 ⟨rfl, x2⟩
    simp only [coreS, Value.cells, Value.oneCell', Nat.reduceAdd, Nat.reduceSub, Nat.reduceMul, Nat.reduceLeDiff, Int.reduceEq, Nat.reduceEqDiff, M45Fs5]
    exact x2
  have hb1 := x1.get hb0
  simp only [hl, hb1, decide_false, coreS, Value.cells, Value.oneCell', Nat.reduceAdd, Nat.reduceSub, Nat.reduceMul, Nat.reduceLeDiff, Int.reduceEq, Nat.reduceEqDiff, M45Fs5]
  refine CallsH.mono (checkShort32 S M a n c ws b m k xs h2 (hr.ext y1) hn (by omega) (hd.ext y1) (by omega)) ?_
  rintro v h3 ⟨rfl, x3⟩
  have hb3 := x3.get hb1
  have y3 := y1.trans x3
  simp only [hb3, coreS, Value.cells, Value.oneCell', Nat.reduceAdd, Nat.reduceSub, Nat.reduceMul, Nat.reduceLeDiff, Int.reduceEq, Nat.reduceEqDiff, M45Fs5]
  refine CallsH.mono (checkShort33 S M a n c ws b m k xs h3 (hr.ext y3) hn (by omega) (hd.ext y3) (by omega)) ?_
  rintro v h4 ⟨rfl, x4⟩
  have hb4 := x4.get hb3
  have y4 := y3.trans x4
  simp only [hb4, coreS, Value.cells, Value.oneCell', Nat.reduceAdd, Nat.reduceSub, Nat.reduceMul, Nat.reduceLeDiff, Int.reduceEq, Nat.reduceEqDiff, M45Fs5]
  refine CallsH.mono (short34R S M a n c ws h4 (hr.ext y4) hn (by omega)) ?_
  rintro v h5 ⟨⟨aF, cF, F, rfl, IF, hF6, hF1, hF0⟩, x5⟩
  have hb5 := x5.get hb4
  have y5 := y4.trans x5
  simp only [hb5, coreS, Value.cells, Value.oneCell', Nat.reduceAdd, Nat.reduceSub, Nat.reduceMul, Nat.reduceLeDiff, Int.reduceEq, Nat.reduceEqDiff, M45Fs5]
  refine CallsH.mono (shortError35 S M a n c ws h5 (hr.ext y5) hn (by omega)) ?_
  rintro v h6 ⟨rfl, x6⟩
  have hb6 := x6.get hb5
  have y6 := y5.trans x6
  simp only [decide_true, Bool.not_true, coreS, Value.cells, Value.oneCell', Nat.reduceAdd, Nat.reduceSub, Nat.reduceMul, Nat.reduceLeDiff, Int.reduceEq, Nat.reduceEqDiff, M45Fs5]
  refine CallsH.mono (long16 aF F.length cF h6) ?_
  rintro v h7 ⟨rfl, rfl⟩
  have t1 : ¬ (24 : Int) < ((F.length : Nat) : Int) := by omega
  by_cases he : sheE S M ws = 0
  · simp only [t1, he, hb6, decide_true, decide_false, Bool.not_true, coreS, Value.cells, Value.oneCell', Nat.reduceAdd, Nat.reduceSub, Nat.reduceMul, Nat.reduceLeDiff, Int.reduceEq, Nat.reduceEqDiff, M45Fs5]
    refine CallsH.mono (checkShort33 S M a n c ws aF F.length cF (zsN F) h7 (hr.ext y6) hn (by omega) (IF.ext x6) (by omega)) ?_
    rintro v h8 ⟨rfl, x8⟩
    rw [hF0 he]
    simp only [decide_true, coreS, Value.cells, Value.oneCell', Nat.reduceAdd, Nat.reduceSub, Nat.reduceMul, Nat.reduceLeDiff, Int.reduceEq, Nat.reduceEqDiff, M45Fs5]
    refine CallsH.mono (out _ (y6.trans x8)) ?_
    rintro v h9 ⟨rfl, x9⟩
    simp only [coreS, Value.cells, Value.oneCell', Nat.reduceAdd, Nat.reduceSub, Nat.reduceMul, Nat.reduceLeDiff, Int.reduceEq, Nat.reduceEqDiff, M45Fs5]
    exact x9
  · have hF := hF1 he
    have hFz : ((F.length : Nat) : Int) = 0 := by rw [hF]; rfl
    simp only [t1, show ¬ ((24 : Int) < 0) by decide, he, hFz, decide_true, decide_false, Bool.not_false, coreS, Value.cells, Value.oneCell', Nat.reduceAdd, Nat.reduceSub, Nat.reduceMul, Nat.reduceLeDiff, Int.reduceEq, Nat.reduceEqDiff, M45Fs5]
    refine CallsH.mono (out _ y6) ?_
    rintro v h9 ⟨rfl, x9⟩
    simp only [coreS, Value.cells, Value.oneCell', Nat.reduceAdd, Nat.reduceSub, Nat.reduceMul, Nat.reduceLeDiff, Int.reduceEq, Nat.reduceEqDiff, M45Fs5]
    exact x9
end Go.Proofs.Ytmgkeeefbfefgaa
