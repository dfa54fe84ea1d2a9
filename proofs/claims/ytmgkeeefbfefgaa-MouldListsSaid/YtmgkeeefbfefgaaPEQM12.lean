/- MouldBooks returns true. -/
import Derived.Test.YtmgkeeefbfefgaaPE12
import Derived.Test.YtmgkeeefbfefgaaPEQWork
namespace Go.Proofs.Ytmgkeeefbfefgaa
open Go Go.Proofs Go.Eng Go.Run Tab
set_option maxRecDepth 100000
set_option linter.unusedSimpArgs false
set_option linter.unusedVariables false
set_option linter.defProp false
set_option maxHeartbeats 1000000
set_option linter.defProp false
def M12Fs3 := (And.intro @agg24 (And.intro @inf24 @sz24))
def ldR (S M : Int) (ws : List Wn) : List Int := if chk S M ws = 0 then ldL (shN ws) S.toNat ws.length else []
def ldR2 (S M : Int) (ws : List Wn) : List Int := if chk S M ws = 0 then ldL (moN ws) M.toNat ws.length else []
theorem LoadsP.get {S M : Int} {ws : List Wn} {h0 : Nat} {h' : Eng.Heap} {v : Value} (H : LoadsP S M ws h0 h' v) : ∃ a n c b m d, v = .tuple #[.slice a n c, .slice b m d, .int .i64 (chk S M ws)] ∧ IntsV h' a n (ldR S M ws) ∧ IntsV h' b m (ldR2 S M ws) ∧ n ≤ 6 ∧ m ≤ 6 := by
  by_cases hc : chk S M ws = 0
  · obtain ⟨s, m, rfl, rfl, V⟩ := chk_ok hc
    obtain ⟨p, q, rfl, _, _, _, h1, h2⟩ := H.ok s m rfl rfl V
    have i1 := IntsV.block (xs := ldL (shN ws) s ws.length) h1
    have i2 := IntsV.block (xs := ldL (moN ws) m ws.length) h2
    rw [ldL_length] at i1 i2
    refine ⟨_, _, _, _, _, _, by rw [hc], ?_, ?_, V.s2, V.m2⟩
    · unfold ldR; rw [if_pos hc]; exact i1
    · unfold ldR2; rw [if_pos hc]; exact i2
  · refine ⟨_, _, _, _, _, _, H.no hc, ?_, ?_, by omega, by omega⟩
    · unfold ldR; rw [if_neg hc]; exact IntsV.nil _
    · unfold ldR2; rw [if_neg hc]; exact IntsV.nil _
theorem books3 (S M : Int) (a : Option Addr) (n c : Nat) (ws : List Wn) (b : Option Addr) (m k : Nat) (days : List Int) (h : Eng.Heap) (hr : Row h a (wsV ws)) (hn : n = ws.length) (hd : IntsV h b m days) (hmk : m ≤ k) :
    CallsH Try.prog 3 #[.agg #[.int .i64 S, .int .i64 M, .slice a n c], .slice b m k] h (fun v h' => v = .bool true ∧ Ext h h') := by
  (refine CallsH_of_exec Try.func3 rfl bod3 ?_; simp only [Try.ntmps3, Try.results3, coreS, stK_some, splice, Value.cells, Value.oneCell', Nat.reduceAdd, Nat.reduceSub, Nat.reduceMul, Nat.reduceLeDiff, Int.reduceEq, Nat.reduceEqDiff, M12Fs3])
  have x0 : Ext h (h.push (.cells #[.int .i64 S, .int .i64 M, .slice a n c] 24)) := (Ext.refl h).push _
  have hb0 := push_new (h := h) (o := .cells #[.int .i64 S, .int .i64 M, .slice a n c] 24)
  generalize h.push (.cells #[.int .i64 S, .int .i64 M, .slice a n c] 24) = hh at x0 hb0 ⊢
  refine CallsH.mono (great15 S M a n c hh) ?_
  rintro v h1 ⟨rfl, x1⟩
  have out : ∀ h1, Ext h h1 → CallsH Try.prog 17 #[] h1 (fun v h' => v = .bool true ∧ Ext h h') := fun h1 x => CallsH.mono (works17 h1) fun v h' q => ⟨q.1, x.trans q.2⟩
  by_cases hg : 20 < (n : Int)
  · simp only [hg, decide_true, coreS, Value.cells, Value.oneCell', Nat.reduceAdd, Nat.reduceSub, Nat.reduceMul, Nat.reduceLeDiff, Int.reduceEq, Nat.reduceEqDiff, M12Fs3]
    refine CallsH.mono (out _ (x0.trans x1)) ?_
    rintro v h2 ⟨rfl, x2⟩
    simp only [coreS, Value.cells, Value.oneCell', Nat.reduceAdd, Nat.reduceSub, Nat.reduceMul, Nat.reduceLeDiff, Int.reduceEq, Nat.reduceEqDiff, M12Fs3]
    exact x2
  simp only [hg, decide_false, coreS, Value.cells, Value.oneCell', Nat.reduceAdd, Nat.reduceSub, Nat.reduceMul, Nat.reduceLeDiff, Int.reduceEq, Nat.reduceEqDiff, M12Fs3]
  refine CallsH.mono (long16 b m k h1) ?_
  rintro v h2 ⟨rfl, rfl⟩
  by_cases hl : 24 < (m : Int)
  · simp only [hl, decide_true, coreS, Value.cells, Value.oneCell', Nat.reduceAdd, Nat.reduceSub, Nat.reduceMul, Nat.reduceLeDiff, Int.reduceEq, Nat.reduceEqDiff, M12Fs3]
    refine CallsH.mono (out _ (x0.trans x1)) ?_
    rintro v h2 ⟨rfl, x2⟩
    simp only [coreS, Value.cells, Value.oneCell', Nat.reduceAdd, Nat.reduceSub, Nat.reduceMul, Nat.reduceLeDiff, Int.reduceEq, Nat.reduceEqDiff, M12Fs3]
    exact x2
  have hb1 := x1.get hb0
  have y1 := x0.trans x1
  simp only [hl, hb1, decide_false, coreS, Value.cells, Value.oneCell', Nat.reduceAdd, Nat.reduceSub, Nat.reduceMul, Nat.reduceLeDiff, Int.reduceEq, Nat.reduceEqDiff, M12Fs3]
  refine CallsH.mono (loads18 S M a n c ws h2 (hr.ext y1) hn (by omega)) ?_
  rintro v h3 ⟨L1, x3⟩
  obtain ⟨a1, n1, c1, a2, n2, c2, rfl, I1, I2, q1, q2⟩ := L1.get
  have hb3 := x3.get hb1
  have y3 := y1.trans x3
  simp only [hb3, coreS, Value.cells, Value.oneCell', Nat.reduceAdd, Nat.reduceSub, Nat.reduceMul, Nat.reduceLeDiff, Int.reduceEq, Nat.reduceEqDiff, M12Fs3]
  refine CallsH.mono (loads19 S M a n c ws h3 (hr.ext y3) hn (by omega)) ?_
  rintro v h4 ⟨L2, x4⟩
  obtain ⟨a3, n3, c3, a4, n4, c4, rfl, I3, I4, q3, q4⟩ := L2.get
  have hb4 := x4.get hb3
  have y4 := y3.trans x4
  simp only [hb4, coreS, Value.cells, Value.oneCell', Nat.reduceAdd, Nat.reduceSub, Nat.reduceMul, Nat.reduceLeDiff, Int.reduceEq, Nat.reduceEqDiff, M12Fs3]
  refine CallsH.mono (checkDays20 S M a n c ws b m k days h4 (hr.ext y4) hn (by omega) (hd.ext y4) (by omega)) ?_
  rintro v h5 ⟨rfl, x5⟩
  have hb5 := x5.get hb4
  have y5 := y4.trans x5
  simp only [hb5, coreS, Value.cells, Value.oneCell', Nat.reduceAdd, Nat.reduceSub, Nat.reduceMul, Nat.reduceLeDiff, Int.reduceEq, Nat.reduceEqDiff, M12Fs3]
  refine CallsH.mono (checkDays21 S M a n c ws b m k days h5 (hr.ext y5) hn (by omega) (hd.ext y5) (by omega) hmk) ?_
  rintro v h6 ⟨rfl, x6⟩
  have hb6 := x6.get hb5
  have y6 := y5.trans x6
  have x46 := x5.trans x6
  have x36 := x4.trans x46
  simp only [coreS, Value.cells, Value.oneCell', Nat.reduceAdd, Nat.reduceSub, Nat.reduceMul, Nat.reduceLeDiff, Int.reduceEq, Nat.reduceEqDiff, M12Fs3]
  refine WP_draw (by kernel_rfl) sta_ext [(0, 0), (1, 0), (2, 0), (3, 0), (4, 0), (5, 0), (6, 0), (7, 0), (8, 0), (9, 0), (10, 0), (11, 0), (12, 0), (13, 0), (14, 0), (15, 0), (16, 0), (17, 0), (18, 0), (19, 0), (20, 0), (21, 0), (22, 0), (23, 0), (24, 0), (25, 0), (26, 0), (27, 0), (28, 0), (29, 0), (30, 0), (31, 0), (32, 0), (33, 0)] (by kernel_rfl) rfl (by kernel_rfl) ?_
  simp only [hb6, coreS, Value.cells, Value.oneCell', Nat.reduceAdd, Nat.reduceSub, Nat.reduceMul, Nat.reduceLeDiff, Int.reduceEq, Nat.reduceEqDiff, drawS, M12Fs3]
  refine cQ_ext _ (fun h' x' => check22 S M a n c ws h' (hr.ext (y6.trans x')) hn (by omega)) ?_
  simp only [hb6, coreS, Value.cells, Value.oneCell', Nat.reduceAdd, Nat.reduceSub, Nat.reduceMul, Nat.reduceLeDiff, Int.reduceEq, Nat.reduceEqDiff, drawS, M12Fs3]
  refine cQ_ext _ (fun h' x' => check23 S M a n c ws h' (hr.ext (y6.trans x')) hn (by omega)) ?_
  simp only [decide_true, coreS, Value.cells, Value.oneCell', Nat.reduceAdd, Nat.reduceSub, Nat.reduceMul, Nat.reduceLeDiff, Int.reduceEq, Nat.reduceEqDiff, drawS, M12Fs3]
  refine cQ_ext (.bool true) (fun h' x' => CallsH.mono (ints24 a1 a3 n1 c1 n3 c3 _ _ h' (I1.ext (x36.trans x')) (I3.ext (x46.trans x')) (by omega)) fun v h' q => ⟨by rw [q.1]; simp, by rw [q.2]; exact Ext.refl _⟩) ?_
  simp only [decide_true, coreS, Value.cells, Value.oneCell', Nat.reduceAdd, Nat.reduceSub, Nat.reduceMul, Nat.reduceLeDiff, Int.reduceEq, Nat.reduceEqDiff, drawS, M12Fs3]
  refine cQ_ext (.bool true) (fun h' x' => CallsH.mono (ints24 a2 a4 n2 c2 n4 c4 _ _ h' (I2.ext (x36.trans x')) (I4.ext (x46.trans x')) (by omega)) fun v h' q => ⟨by rw [q.1]; simp, by rw [q.2]; exact Ext.refl _⟩) ?_
  simp only [decide_true, coreS, Value.cells, Value.oneCell', Nat.reduceAdd, Nat.reduceSub, Nat.reduceMul, Nat.reduceLeDiff, Int.reduceEq, Nat.reduceEqDiff, drawS, M12Fs3]
  refine cQ_ext _ (fun h' x' => works17 h') ?_
  simp only [decide_true, coreS, Value.cells, Value.oneCell', Nat.reduceAdd, Nat.reduceSub, Nat.reduceMul, Nat.reduceLeDiff, Int.reduceEq, Nat.reduceEqDiff, drawS, M12Fs3]
  refine hvK_mk fun h7 x7 => ?_
  simp only [coreS, Value.cells, Value.oneCell', Nat.reduceAdd, Nat.reduceSub, Nat.reduceMul, Nat.reduceLeDiff, Int.reduceEq, Nat.reduceEqDiff, M12Fs3]
  exact y6.trans x7
end Go.Proofs.Ytmgkeeefbfefgaa
