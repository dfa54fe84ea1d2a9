/- Walks of the document: DaysOf, Fewest, Days; chained, ChainOf. -/
import Derived.Test.YtmgkeeefbfefgaaGreatPAQZ1
import Derived.Test.YtmgkeeefbfefgaaGreatPA12
namespace Go.Proofs.YtmgkeeefbfefgaaGreat
open Go Go.Proofs Go.Eng Go.Run Tab
set_option maxRecDepth 100000
set_option linter.unusedSimpArgs false
set_option linter.unusedVariables false
set_option linter.defProp false
set_option maxHeartbeats 2000000
set_option linter.defProp false
def Z2Fs8 := (And.intro @agg24 (And.intro @inf24 @sz24))
def Z2Fs10 := (And.intro @agg24 (And.intro @inf24 @sz24))
def Z2Fs32 := (And.intro (And.intro (And.intro @agg22 @agg24) (And.intro @fo24_2 @inf22)) (And.intro (And.intro @inf24 @sz22) (And.intro @sz24 @Tryz.underlying22)))
theorem daysOf32 (S M : Nat) (a : Option Addr) (n c : Nat) (ws : List Wn) (h : Eng.Heap) (hr : Row h a (wsV ws)) (hn : n = ws.length) (V : Vb S M ws) :
    CallsH Tryz.prog 32 #[.agg #[.int .i64 S, .int .i64 M, .slice a n c]] h (fun v h' => (∃ a' c', v = .slice a' n c' ∧ IntsV h' a' n (zsN (dysF ws)) ∧ n ≤ c') ∧ Ext h h') := by
  have hV := V.n
  obtain ⟨d1, d2, d3, d4, d5⟩ := dysF_ok V
  have hG := gld_le V
  (refine CallsH_of_exec Tryz.func32 rfl bod32 ?_; simp only [Tryz.ntmps32, Tryz.results32, coreS, stK_some, splice, Value.cells, Value.oneCell', Nat.reduceAdd, Nat.reduceSub, Nat.reduceMul, Nat.reduceLeDiff, Int.reduceEq, Nat.reduceEqDiff, Z2Fs32])
  have x0 : Ext h (h.push (.cells #[.int .i64 S, .int .i64 M, .slice a n c] 24)) := (Ext.refl h).push _
  have q0 := push_new (h := h) (o := .cells #[.int .i64 S, .int .i64 M, .slice a n c] 24)
  generalize h.push (.cells #[.int .i64 S, .int .i64 M, .slice a n c] 24) = hh at x0 q0 ⊢

  refine CallsH.mono (greatest63 S M a n c ws hh (hr.ext x0) hn V) ?_
  rintro v h1 ⟨rfl, x1⟩
  have y1 := x0.trans x1
  have q1 := x1.get q0
  have go1 : ∀ h2, Ext h h2 → CallsH Tryz.prog 64 #[.agg #[.int .i64 S, .int .i64 M, .slice a n c], .slice none 0 0, .int .i64 (gld ws : Nat)] h2 (fun v h' => (∃ a' c', v = .tuple #[.slice a' n c', .bool true] ∧ IntsV h' a' n (zsN (dysF ws)) ∧ n ≤ c') ∧ Ext h2 h') := fun h2 x => by
    refine CallsH.mono (goOn64 S M a n c (gld ws) ws hn V (by omega) n none 0 [] h2 (hr.ext x) (by simp) (IntsV.nil _) (by simp)) ?_
    rintro v h3 ⟨⟨l, a3, c3, hgo, rfl, I3, hc3⟩ | ⟨hgo, _⟩, x3⟩
    · rw [hn, d1] at hgo
      cases hgo
      rw [d2, ← hn] at I3 hc3
      exact ⟨⟨a3, c3, by rw [d2, ← hn], I3, hc3⟩, x3⟩
    · rw [hn, d1] at hgo; cases hgo
  simp only [coreS, Value.cells, Value.oneCell', Nat.reduceAdd, Nat.reduceSub, Nat.reduceMul, Nat.reduceLeDiff, Int.reduceEq, Nat.reduceEqDiff, Z2Fs32]
  refine WP_loopI [2, 3, 4, 5, 10, 11, 12, 13, 14, 15, 16, 17, 18, 19, 20, 21, 22, 23, 24] (fun e h' => h' = h1 ∧ e 3 = .int .i64 (gld ws : Nat)) (fun _ _ => 0) ⟨rfl, rfl⟩ ?_
  rintro e h2 ⟨rfl, he⟩
  by_cases hlt : ((gld ws : Nat) : Int) < (n : Int)
  · simp only [he, q1, hlt, decide_true, coreS, Value.cells, Value.oneCell', Nat.reduceAdd, Nat.reduceSub, Nat.reduceMul, Nat.reduceLeDiff, Int.reduceEq, Nat.reduceEqDiff, Z2Fs32]
    refine CallsH.mono (go1 h2 y1) ?_
    rintro v h3 ⟨⟨a3, c3, rfl, I3, hc3⟩, x3⟩
    simp only [coreS, Value.cells, Value.oneCell', Nat.reduceAdd, Nat.reduceSub, Nat.reduceMul, Nat.reduceLeDiff, Int.reduceEq, Nat.reduceEqDiff, Z2Fs32]
    exact ⟨⟨a3, c3, rfl, I3, hc3⟩, y1.trans x3⟩
  · have e2 : ((n : Nat) : Int) = (gld ws : Nat) := by omega
    simp only [he, q1, hlt, decide_false, coreS, Value.cells, Value.oneCell', Nat.reduceAdd, Nat.reduceSub, Nat.reduceMul, Nat.reduceLeDiff, Int.reduceEq, Nat.reduceEqDiff, Z2Fs32]
    rw [e2]
    refine CallsH.mono (go1 h2 y1) ?_
    rintro v h3 ⟨⟨a3, c3, rfl, I3, hc3⟩, x3⟩
    simp only [coreS, Value.cells, Value.oneCell', Nat.reduceAdd, Nat.reduceSub, Nat.reduceMul, Nat.reduceLeDiff, Int.reduceEq, Nat.reduceEqDiff, Z2Fs32]
    exact ⟨⟨a3, c3, rfl, I3, hc3⟩, y1.trans x3⟩
/-- What Fewest and Days return. -/
theorem fewest8 (S M : Int) (a : Option Addr) (n c : Nat) (ws : List Wn) (h : Eng.Heap) (hr : Row h a (wsV ws)) (hn : n = ws.length) (hl : n ≤ 1000000) :
    CallsH Tryz.prog 8 #[.agg #[.int .i64 S, .int .i64 M, .slice a n c]] h (fun v h' => v = .tuple #[.int .i64 (if chk S M ws = 0 then (gld ws : Nat) else 0), .int .i64 (chk S M ws)] ∧ Ext h h') := by
  (refine CallsH_of_exec Tryz.func8 rfl bod8 ?_; simp only [Tryz.ntmps8, Tryz.results8, coreS, stK_some, splice, Value.cells, Value.oneCell', Nat.reduceAdd, Nat.reduceSub, Nat.reduceMul, Nat.reduceLeDiff, Int.reduceEq, Nat.reduceEqDiff, Z2Fs8])
  have x0 : Ext h (h.push (.cells #[.int .i64 S, .int .i64 M, .slice a n c] 24)) := (Ext.refl h).push _
  have q0 := push_new (h := h) (o := .cells #[.int .i64 S, .int .i64 M, .slice a n c] 24)
  generalize h.push (.cells #[.int .i64 S, .int .i64 M, .slice a n c] 24) = hh at x0 q0 ⊢
  refine CallsH.mono (check23 S M a n c ws hh (hr.ext x0) hn hl) ?_
  rintro v h1 ⟨rfl, x1⟩
  have y1 := x0.trans x1
  have k0 := x1.get q0
  by_cases hc : chk S M ws = 0
  case neg =>
    simp only [hc, k0, decide_false, Bool.not_false, coreS, Value.cells, Value.oneCell', Nat.reduceAdd, Nat.reduceSub, Nat.reduceMul, Nat.reduceLeDiff, Int.reduceEq, Nat.reduceEqDiff, Z2Fs8]
    refine CallsH.mono (check23 S M a n c ws h1 (hr.ext y1) hn hl) ?_
    rintro v h2 ⟨rfl, x2⟩
    simp only [hc, if_false, coreS, Value.cells, Value.oneCell', Nat.reduceAdd, Nat.reduceSub, Nat.reduceMul, Nat.reduceLeDiff, Int.reduceEq, Nat.reduceEqDiff, Z2Fs8]
    exact y1.trans x2
  obtain ⟨s, m, rfl, rfl, V⟩ := chk_ok hc
  have hV := V.n
  obtain ⟨d1, d2, d3, d4, d5⟩ := dysF_ok V
  simp only [hc, k0, decide_true, Bool.not_true, coreS, Value.cells, Value.oneCell', Nat.reduceAdd, Nat.reduceSub, Nat.reduceMul, Nat.reduceLeDiff, Int.reduceEq, Nat.reduceEqDiff, Z2Fs8]
  refine CallsH.mono (daysOf32 s m a n c ws h1 (hr.ext y1) hn V) ?_
  rintro v h2 ⟨⟨a', c', rfl, I2, hc2⟩, x2⟩
  simp only [coreS, Value.cells, Value.oneCell', Nat.reduceAdd, Nat.reduceSub, Nat.reduceMul, Nat.reduceLeDiff, Int.reduceEq, Nat.reduceEqDiff, Z2Fs8]
  refine CallsH.mono (different58 a' n c' (zsN (dysF ws)) h2 I2 hc2 (by omega) (fun x hx => by obtain ⟨y, _, rfl⟩ := List.mem_map.1 hx; omega)) ?_
  rintro v h3 ⟨rfl, rfl⟩
  rw [natL_zsN, d5]
  simp only [if_true, coreS, Value.cells, Value.oneCell', Nat.reduceAdd, Nat.reduceSub, Nat.reduceMul, Nat.reduceLeDiff, Int.reduceEq, Nat.reduceEqDiff, Z2Fs8]
  exact y1.trans x2
theorem days10 (S M : Int) (a : Option Addr) (n c : Nat) (ws : List Wn) (h : Eng.Heap) (hr : Row h a (wsV ws)) (hn : n = ws.length) (hl : n ≤ 1000000) :
    CallsH Tryz.prog 10 #[.agg #[.int .i64 S, .int .i64 M, .slice a n c]] h (fun v h' => (∃ a' m' c', v = .tuple #[.slice a' m' c', .int .i64 (chk S M ws)] ∧ IntsV h' a' m' (if chk S M ws = 0 then zsN (dysF ws) else []) ∧ m' ≤ n) ∧ Ext h h') := by
  (refine CallsH_of_exec Tryz.func10 rfl bod10 ?_; simp only [Tryz.ntmps10, Tryz.results10, coreS, stK_some, splice, Value.cells, Value.oneCell', Nat.reduceAdd, Nat.reduceSub, Nat.reduceMul, Nat.reduceLeDiff, Int.reduceEq, Nat.reduceEqDiff, Z2Fs10])
  have x0 : Ext h (h.push (.cells #[.int .i64 S, .int .i64 M, .slice a n c] 24)) := (Ext.refl h).push _
  have q0 := push_new (h := h) (o := .cells #[.int .i64 S, .int .i64 M, .slice a n c] 24)
  generalize h.push (.cells #[.int .i64 S, .int .i64 M, .slice a n c] 24) = hh at x0 q0 ⊢
  refine CallsH.mono (check23 S M a n c ws hh (hr.ext x0) hn hl) ?_
  rintro v h1 ⟨rfl, x1⟩
  have y1 := x0.trans x1
  have k0 := x1.get q0
  by_cases hc : chk S M ws = 0
  case neg =>
    simp only [hc, k0, decide_false, Bool.not_false, coreS, Value.cells, Value.oneCell', Nat.reduceAdd, Nat.reduceSub, Nat.reduceMul, Nat.reduceLeDiff, Int.reduceEq, Nat.reduceEqDiff, Z2Fs10]
    refine CallsH.mono (check23 S M a n c ws h1 (hr.ext y1) hn hl) ?_
    rintro v h2 ⟨rfl, x2⟩
    simp only [hc, if_false, coreS, Value.cells, Value.oneCell', Nat.reduceAdd, Nat.reduceSub, Nat.reduceMul, Nat.reduceLeDiff, Int.reduceEq, Nat.reduceEqDiff, Z2Fs10]
    exact ⟨⟨none, 0, 0, rfl, IntsV.nil _, by omega⟩, y1.trans x2⟩
  obtain ⟨s, m, rfl, rfl, V⟩ := chk_ok hc
  have hV := V.n
  simp only [hc, k0, decide_true, Bool.not_true, coreS, Value.cells, Value.oneCell', Nat.reduceAdd, Nat.reduceSub, Nat.reduceMul, Nat.reduceLeDiff, Int.reduceEq, Nat.reduceEqDiff, Z2Fs10]
  refine CallsH.mono (daysOf32 s m a n c ws h1 (hr.ext y1) hn V) ?_
  rintro v h2 ⟨⟨a', c', rfl, I2, hc2⟩, x2⟩
  simp only [if_true, coreS, Value.cells, Value.oneCell', Nat.reduceAdd, Nat.reduceSub, Nat.reduceMul, Nat.reduceLeDiff, Int.reduceEq, Nat.reduceEqDiff, Z2Fs10]
  exact ⟨⟨a', n, c', rfl, I2, Nat.le_refl _⟩, y1.trans x2⟩
end Go.Proofs.YtmgkeeefbfefgaaGreat
