/- Walks: open, dayError, great. -/
import Derived.Test.YtepaekbjoombpaaGreatDoorA4
namespace Go.Proofs.YtepaekbjoombpaaGreatDoor
open Go Go.Proofs Go.Eng Tab
set_option maxRecDepth 100000
set_option linter.unusedSimpArgs false
set_option linter.unusedVariables false
set_option maxHeartbeats 1000000
set_option linter.defProp false
def A5Fs17 := (And.intro (And.intro @agg22 @fo24_2) (And.intro @inf22 (And.intro @sz22 @Tryz.underlying22)))
def A5Fs72 := (And.intro (And.intro @agg24 (And.intro @fps150_0 @inf24)) (And.intro @okf150 (And.intro @sz24 @zero150)))
def A5Fs73 := (And.intro @agg24 (And.intro @inf24 @sz24))
/-- The error of a book and of days. -/
noncomputable def opn (acc cl : Int) (es : List En) (days : List Int) : Int := if chk acc cl es ≠ 0 then chk acc cl es else if inB 0 30 days then 0 else 3
theorem open72 (acc cl : Int) (a : Option Addr) (n c : Nat) (es : List En) (b : Option Addr) (m k : Nat) (days : List Int) (h : Eng.Heap) (hr : Row h a (ensV es)) (hn : n = es.length) (hl : n ≤ 1000000) (hd : IntsV h b m days) (hm : m ≤ 1000000) :
    CallsH Tryz.prog 72 #[.agg #[.int .i64 acc, .int .i64 cl, .slice a n c], .slice b m k] h (fun v h' => Ext h h' ∧
      ((opn acc cl es days = 0 ∧ ∃ g, v = .tuple #[.pointer (some ⟨g, 0, none⟩), .int .i64 0] ∧ h'[g]? = some (.cells #[.int .i64 acc, .int .i64 cl, .slice a n c] 150) ∧ h.size ≤ g) ∨
       (opn acc cl es days ≠ 0 ∧ v = .tuple #[.pointer none, .int .i64 (opn acc cl es days)]))) := by
  refine CallsH_of_exec Tryz.func72 rfl bod72 ?_
  simp only [Tryz.ntmps72, Tryz.results72, coreS, stK_some, splice, Value.cells, Value.oneCell', Nat.reduceAdd, Nat.reduceSub, Nat.reduceMul, Nat.reduceLeDiff, Int.reduceEq, Nat.reduceEqDiff, A5Fs72]
  have x0 : Ext h (h.push (.cells #[.int .i64 acc, .int .i64 cl, .slice a n c] 24)) := (Ext.refl h).push _
  refine CallsH.mono (check25 acc cl a n c es _ (hr.push _) hn hl) ?_
  rintro v h1 ⟨rfl, x1⟩
  have hb1 := x1.get (push_new (h := h))
  have y1 := x0.trans x1
  by_cases hc : chk acc cl es = 0
  · have e1 : opn acc cl es days = if inB 0 30 days then 0 else 3 := by rw [opn, if_neg (by simpa using hc)]
    simp only [hc, coreS, Value.cells, Value.oneCell', Nat.reduceAdd, Nat.reduceSub, Nat.reduceMul, Nat.reduceLeDiff, Int.reduceEq, Nat.reduceEqDiff, A5Fs72]
    refine CallsH.mono (within71 0 30 b m k days h1 (hd.ext y1) hm) ?_
    rintro v h2 ⟨rfl, x2⟩
    have hb2 := x2.get hb1
    have y2 := y1.trans x2
    cases hin : inB 0 30 days with
    | true =>
      rw [hin] at e1
      simp only [hb2, splice, coreS, Value.cells, Value.oneCell', Nat.reduceAdd, Nat.reduceSub, Nat.reduceMul, Nat.reduceLeDiff, Int.reduceEq, Nat.reduceEqDiff, A5Fs72]
      exact ⟨y2.push _, .inl ⟨by simpa using e1, h2.size, rfl, by simp, y2.size⟩⟩
    | false =>
      rw [hin] at e1
      have e2 : opn acc cl es days = 3 := e1
      simp only [hb2, coreS, Value.cells, Value.oneCell', Nat.reduceAdd, Nat.reduceSub, Nat.reduceMul, Nat.reduceLeDiff, Int.reduceEq, Nat.reduceEqDiff, A5Fs72]
      exact ⟨y2, .inr ⟨by rw [e2]; omega, by rw [e2]⟩⟩
  · have e1 : opn acc cl es days = chk acc cl es := by rw [opn, if_pos hc]
    simp only [hc, decide_false, Bool.not_false, coreS, Value.cells, Value.oneCell', Nat.reduceAdd, Nat.reduceSub, Nat.reduceMul, Nat.reduceLeDiff, Int.reduceEq, Nat.reduceEqDiff, A5Fs72]
    exact ⟨y1, .inr ⟨by rw [e1]; exact hc, by rw [e1]⟩⟩
theorem dayError73 (acc cl : Int) (a : Option Addr) (n c : Nat) (es : List En) (day : Int) (h : Eng.Heap) (hr : Row h a (ensV es)) (hn : n = es.length) (hl : n ≤ 1000000) :
    CallsH Tryz.prog 73 #[.agg #[.int .i64 acc, .int .i64 cl, .slice a n c], .int .i64 day] h (fun v h' => v = .int .i64 (opn acc cl es [day]) ∧ Ext h h') := by
  refine CallsH_of_exec Tryz.func73 rfl bod73 ?_
  simp only [Tryz.ntmps73, Tryz.results73, coreS, stK_some, splice, Value.cells, Value.oneCell', Nat.reduceAdd, Nat.reduceSub, Nat.reduceMul, Nat.reduceLeDiff, Int.reduceEq, Nat.reduceEqDiff, A5Fs73]
  have x0 : Ext h (h.push (.cells #[.int .i64 acc, .int .i64 cl, .slice a n c] 24)) := (Ext.refl h).push _
  refine CallsH.mono (check26 acc cl a n c es _ (hr.push _) hn hl) ?_
  rintro v h1 ⟨rfl, x1⟩
  have hb1 := x1.get (push_new (h := h))
  have y1 := x0.trans x1
  by_cases hc : chk acc cl es = 0
  · have e1 : opn acc cl es [day] = if inB 0 30 [day] then 0 else 3 := by rw [opn, if_neg (by simpa using hc)]
    rw [inB_one] at e1
    simp only [hc, coreS, Value.cells, Value.oneCell', Nat.reduceAdd, Nat.reduceSub, Nat.reduceMul, Nat.reduceLeDiff, Int.reduceEq, Nat.reduceEqDiff, A5Fs73]
    refine ⟨fun h2 => ?_, fun h2 => ⟨fun h3 => ?_, fun h3 => ?_⟩⟩
    · refine ⟨?_, y1⟩
      have : ¬ (0 ≤ day ∧ day ≤ 30) := by omega
      rw [e1]; simp [this]
    · refine ⟨?_, y1⟩
      have : ¬ (0 ≤ day ∧ day ≤ 30) := by omega
      rw [e1]; simp [this]
    · refine ⟨?_, y1⟩
      have : (0 ≤ day ∧ day ≤ 30) := by omega
      rw [e1]; simp [this]
  · have e1 : opn acc cl es [day] = chk acc cl es := by rw [opn, if_pos hc]
    simp only [hc, hb1, decide_false, Bool.not_false, coreS, Value.cells, Value.oneCell', Nat.reduceAdd, Nat.reduceSub, Nat.reduceMul, Nat.reduceLeDiff, Int.reduceEq, Nat.reduceEqDiff, A5Fs73]
    refine CallsH.mono (check26 acc cl a n c es _ (hr.ext y1) hn hl) ?_
    rintro v h2 ⟨rfl, x2⟩
    simp only [e1, coreS, Value.cells, Value.oneCell', Nat.reduceAdd, Nat.reduceSub, Nat.reduceMul, Nat.reduceLeDiff, Int.reduceEq, Nat.reduceEqDiff, A5Fs73]
    exact y1.trans x2
theorem great17 (acc cl : Int) (a : Option Addr) (n c : Nat) (h : Eng.Heap) :
    CallsH Tryz.prog 17 #[.agg #[.int .i64 acc, .int .i64 cl, .slice a n c]] h (fun v h' => v = .bool (decide (26 < (n : Int))) ∧ Ext h h') := by
  refine CallsH_of_exec Tryz.func17 rfl bod17 ?_
  simp only [Tryz.ntmps17, Tryz.results17, coreS, stK_some, splice, Value.cells, Value.oneCell', Nat.reduceAdd, Nat.reduceSub, Nat.reduceMul, Nat.reduceLeDiff, Int.reduceEq, Nat.reduceEqDiff, A5Fs17]
  exact (Ext.refl h).push _
end Go.Proofs.YtepaekbjoombpaaGreatDoor
