/- MouldLists returns true. -/
import Derived.Test.YtmgkeeefbfefgaaPEQM44
import Derived.Test.YtmgkeeefbfefgaaPEQM12
import Derived.Test.YtmgkeeefbfefgaaPEQM33
import Derived.Test.YtmgkeeefbfefgaaPEQM37
namespace Go.Proofs.Ytmgkeeefbfefgaa
open Go Go.Proofs Go.Eng Go.Run Tab
set_option maxRecDepth 100000
set_option linter.unusedSimpArgs false
set_option linter.unusedVariables false
set_option linter.defProp false
set_option maxHeartbeats 4000000
set_option linter.defProp false
def M46Fs4 := (And.intro (And.intro @agg24 @inf24) (And.intro @sz24 @Try.underlying25))
def lsR (S M : Int) (ws : List Wn) : List Nat := if chk S M ws = 0 then lsN S.toNat M.toNat ws else []
theorem lsR_le {S M : Int} {ws : List Wn} (hl : ws.length ≤ 1000) : (lsR S M ws).length ≤ 1000 := by
  unfold lsR
  split
  · rename_i hc
    obtain ⟨s, m, rfl, rfl, V⟩ := chk_ok hc
    have := lsN_le V
    rw [Int.toNat_natCast, Int.toNat_natCast]; omega
  · simp
theorem list25R (S M : Int) (a : Option Addr) (n c : Nat) (ws : List Wn) (h : Eng.Heap) (hr : Row h a (wsV ws)) (hn : n = ws.length) (hl : n ≤ 1000000) :
    CallsH Try.prog 25 #[.agg #[.int .i64 S, .int .i64 M, .slice a n c]] h (fun v h' => (∃ a' c', v = .tuple #[.slice a' (lsR S M ws).length c', .int .i64 (chk S M ws)] ∧ IntsV h' a' (lsR S M ws).length (zsN (lsR S M ws))) ∧ Ext h h') := by
  refine CallsH.mono (list25 S M a n c ws h hr hn hl) ?_
  rintro v h1 ⟨⟨s, m, rfl, rfl, V, a', c', rfl, O⟩ | ⟨hc, rfl⟩, x1⟩
  · have e : lsR s m ws = lsN s m ws := by unfold lsR; rw [if_pos V.chk, Int.toNat_natCast, Int.toNat_natCast]
    rw [e]
    exact ⟨⟨a', c', by rw [V.chk], O.ints⟩, x1⟩
  · have e : lsR S M ws = [] := by unfold lsR; rw [if_neg hc]
    rw [e]
    exact ⟨⟨none, 0, rfl, IntsV.nil _⟩, x1⟩
theorem list26R (S M : Int) (a : Option Addr) (n c : Nat) (ws : List Wn) (h : Eng.Heap) (hr : Row h a (wsV ws)) (hn : n = ws.length) (hl : n ≤ 1000000) :
    CallsH Try.prog 26 #[.agg #[.int .i64 S, .int .i64 M, .slice a n c]] h (fun v h' => (∃ a' c', v = .tuple #[.slice a' (lsR S M ws).length c', .int .i64 (chk S M ws)] ∧ IntsV h' a' (lsR S M ws).length (zsN (lsR S M ws))) ∧ Ext h h') := by
  refine CallsH.mono (list26 S M a n c ws h hr hn hl) ?_
  rintro v h1 ⟨⟨s, m, rfl, rfl, V, a', c', rfl, O⟩ | ⟨hc, rfl⟩, x1⟩
  · have e : lsR s m ws = lsN s m ws := by unfold lsR; rw [if_pos V.chk, Int.toNat_natCast, Int.toNat_natCast]
    rw [e]
    exact ⟨⟨a', c', by rw [V.chk], O⟩, x1⟩
  · have e : lsR S M ws = [] := by unfold lsR; rw [if_neg hc]
    rw [e]
    exact ⟨⟨none, 0, rfl, IntsV.nil _⟩, x1⟩
theorem cover29R (S M : Int) (a : Option Addr) (n c : Nat) (ws : List Wn) (h : Eng.Heap) (hr : Row h a (wsV ws)) (hn : n = ws.length) (hl : n ≤ 1000000) :
    CallsH Try.prog 29 #[.agg #[.int .i64 S, .int .i64 M, .slice a n c]] h (fun v h' => (∃ aX cX X aY cY Y, v = .tuple #[.slice aX X.length cX, .slice aY Y.length cY, .int .i64 (chk S M ws)] ∧ IntsV h' aX X.length (zsN X) ∧ IntsV h' aY Y.length (zsN Y) ∧ X.length ≤ 6 ∧ Y.length ≤ 6 ∧ (chk S M ws ≠ 0 → X = [] ∧ Y = []) ∧ (chk S M ws = 0 → covE S M ws (zsN X) (zsN Y) = 0 ∧ covN S M ws (zsN X) (zsN Y) = ((lsR S M ws).length : Nat))) ∧ Ext h h') := by
  refine CallsH.mono (cover29 S M a n c ws h hr hn hl) ?_
  rintro v h1 ⟨⟨s, m, rfl, rfl, V, aX, cX, X, aY, cY, Y, rfl, IX, IY, P⟩ | ⟨hc, rfl⟩, x1⟩
  · have e : lsR s m ws = lsN s m ws := by unfold lsR; rw [if_pos V.chk, Int.toNat_natCast, Int.toNat_natCast]
    have := P.x1; have := P.y1; have := V.s2; have := V.m2
    exact ⟨⟨aX, cX, X, aY, cY, Y, by rw [V.chk], IX, IY, by omega, by omega, fun h => absurd V.chk h, fun _ => ⟨P.e, by rw [e]; exact P.n⟩⟩, x1⟩
  · exact ⟨⟨none, 0, [], none, 0, [], rfl, IntsV.nil _, IntsV.nil _, by simp, by simp, fun _ => ⟨rfl, rfl⟩, fun h => absurd h hc⟩, x1⟩
theorem lists4 (S M : Int) (a : Option Addr) (n c : Nat) (ws : List Wn) (bL : Option Addr) (mL kL : Nat) (L : List Int) (bS : Option Addr) (mS kS : Nat) (SH : List Int) (bM : Option Addr) (mM kM : Nat) (MO : List Int) (h : Eng.Heap) (hr : Row h a (wsV ws)) (hn : n = ws.length)
    (dL : IntsV h bL mL L) (hL : mL ≤ kL) (dS : IntsV h bS mS SH) (hS : mS ≤ kS) (dM : IntsV h bM mM MO) (hM : mM ≤ kM) :
    CallsH Try.prog 4 #[.agg #[.int .i64 S, .int .i64 M, .slice a n c], .slice bL mL kL, .slice bS mS kS, .slice bM mM kM] h (fun v h' => v = .bool true ∧ Ext h h') := by
  (refine CallsH_of_exec Try.func4 rfl bod4 ?_; simp only [Try.ntmps4, Try.results4, coreS, stK_some, splice, Value.cells, Value.oneCell', Nat.reduceAdd, Nat.reduceSub, Nat.reduceMul, Nat.reduceLeDiff, Int.reduceEq, Nat.reduceEqDiff, M46Fs4])
  have x0 : Ext h (h.push (.cells #[.int .i64 S, .int .i64 M, .slice a n c] 24)) := (Ext.refl h).push _
  have hb0 := push_new (h := h) (o := .cells #[.int .i64 S, .int .i64 M, .slice a n c] 24)
  generalize h.push (.cells #[.int .i64 S, .int .i64 M, .slice a n c] 24) = hh at x0 hb0 ⊢
  refine CallsH.mono (great15 S M a n c hh) ?_
  rintro v h1 ⟨rfl, x1⟩
  have out : ∀ h1, Ext h h1 → CallsH Try.prog 17 #[] h1 (fun v h' => v = .bool true ∧ Ext h h') := fun h1 x => CallsH.mono (works17 h1) fun v h' q => ⟨q.1, x.trans q.2⟩
  have y1 := x0.trans x1
  by_cases hg : 20 < (n : Int)
  · simp only [hg, decide_true, gd_none, coreS, Value.cells, Value.oneCell', Nat.reduceAdd, Nat.reduceSub, Nat.reduceMul, Nat.reduceLeDiff, Int.reduceEq, Nat.reduceEqDiff, M46Fs4]
    refine CallsH.mono (out _ y1) ?_
    rintro v h2 ⟨rfl, x2⟩
    simp only [coreS, Value.cells, Value.oneCell', Nat.reduceAdd, Nat.reduceSub, Nat.reduceMul, Nat.reduceLeDiff, Int.reduceEq, Nat.reduceEqDiff, M46Fs4]
    exact x2
  simp only [hg, decide_false, coreS, Value.cells, Value.oneCell', Nat.reduceAdd, Nat.reduceSub, Nat.reduceMul, Nat.reduceLeDiff, Int.reduceEq, Nat.reduceEqDiff, M46Fs4]
  refine CallsH.mono (long16 bL mL kL h1) ?_
  rintro v h2 ⟨rfl, rfl⟩
  by_cases hl1 : 24 < (mL : Int)
  · simp only [hl1, decide_true, gd_none, coreS, Value.cells, Value.oneCell', Nat.reduceAdd, Nat.reduceSub, Nat.reduceMul, Nat.reduceLeDiff, Int.reduceEq, Nat.reduceEqDiff, M46Fs4]
    refine CallsH.mono (out _ y1) ?_
    rintro v h2 ⟨rfl, x2⟩
    simp only [coreS, Value.cells, Value.oneCell', Nat.reduceAdd, Nat.reduceSub, Nat.reduceMul, Nat.reduceLeDiff, Int.reduceEq, Nat.reduceEqDiff, M46Fs4]
    exact x2
  simp only [hl1, decide_false, coreS, Value.cells, Value.oneCell', Nat.reduceAdd, Nat.reduceSub, Nat.reduceMul, Nat.reduceLeDiff, Int.reduceEq, Nat.reduceEqDiff, M46Fs4]
  refine CallsH.mono (long16 bS mS kS h2) ?_
  rintro v h3 ⟨rfl, rfl⟩
  by_cases hl2 : 24 < (mS : Int)
  · simp only [hl2, decide_true, gd_none, coreS, Value.cells, Value.oneCell', Nat.reduceAdd, Nat.reduceSub, Nat.reduceMul, Nat.reduceLeDiff, Int.reduceEq, Nat.reduceEqDiff, M46Fs4]
    refine CallsH.mono (out _ y1) ?_
    rintro v h2 ⟨rfl, x2⟩
    simp only [coreS, Value.cells, Value.oneCell', Nat.reduceAdd, Nat.reduceSub, Nat.reduceMul, Nat.reduceLeDiff, Int.reduceEq, Nat.reduceEqDiff, M46Fs4]
    exact x2
  simp only [hl2, decide_false, coreS, Value.cells, Value.oneCell', Nat.reduceAdd, Nat.reduceSub, Nat.reduceMul, Nat.reduceLeDiff, Int.reduceEq, Nat.reduceEqDiff, M46Fs4]
  refine CallsH.mono (long16 bM mM kM h3) ?_
  rintro v h4 ⟨rfl, rfl⟩
  by_cases hl3 : 24 < (mM : Int)
  · simp only [hl3, decide_true, gd_none, coreS, Value.cells, Value.oneCell', Nat.reduceAdd, Nat.reduceSub, Nat.reduceMul, Nat.reduceLeDiff, Int.reduceEq, Nat.reduceEqDiff, M46Fs4]
    refine CallsH.mono (out _ y1) ?_
    rintro v h2 ⟨rfl, x2⟩
    simp only [coreS, Value.cells, Value.oneCell', Nat.reduceAdd, Nat.reduceSub, Nat.reduceMul, Nat.reduceLeDiff, Int.reduceEq, Nat.reduceEqDiff, M46Fs4]
    exact x2
  have hb1 := x1.get hb0
  have hle := lsR_le (S := S) (M := M) (ws := ws) (by omega)
  simp only [hl3, hb1, decide_false, coreS, Value.cells, Value.oneCell', Nat.reduceAdd, Nat.reduceSub, Nat.reduceMul, Nat.reduceLeDiff, Int.reduceEq, Nat.reduceEqDiff, M46Fs4]
  refine CallsH.mono (list25R S M a n c ws h4 (hr.ext y1) hn (by omega)) ?_
  rintro v h5 ⟨⟨aP, cP, rfl, IP⟩, x5⟩
  have hb5 := x5.get hb1
  have y5 := y1.trans x5
  simp only [hb5, coreS, Value.cells, Value.oneCell', Nat.reduceAdd, Nat.reduceSub, Nat.reduceMul, Nat.reduceLeDiff, Int.reduceEq, Nat.reduceEqDiff, M46Fs4]
  refine CallsH.mono (list26R S M a n c ws h5 (hr.ext y5) hn (by omega)) ?_
  rintro v h6 ⟨⟨aD, cD, rfl, ID⟩, x6⟩
  have hb6 := x6.get hb5
  have y6 := y5.trans x6
  simp only [hb6, coreS, Value.cells, Value.oneCell', Nat.reduceAdd, Nat.reduceSub, Nat.reduceMul, Nat.reduceLeDiff, Int.reduceEq, Nat.reduceEqDiff, M46Fs4]
  refine CallsH.mono (cover27 S M a n c ws bS mS kS SH bM mM kM MO h6 (hr.ext y6) hn (by omega) (dS.ext y6) (dM.ext y6) (by omega) (by omega)) ?_
  rintro v h7 ⟨rfl, x7⟩
  have hb7 := x7.get hb6
  have y7 := y6.trans x7
  simp only [hb7, coreS, Value.cells, Value.oneCell', Nat.reduceAdd, Nat.reduceSub, Nat.reduceMul, Nat.reduceLeDiff, Int.reduceEq, Nat.reduceEqDiff, M46Fs4]
  refine CallsH.mono (cover28 S M a n c ws bS mS kS SH bM mM kM MO h7 (hr.ext y7) hn (by omega) (dS.ext y7) (dM.ext y7) (by omega) (by omega)) ?_
  rintro v h8 ⟨rfl, x8⟩
  have hb8 := x8.get hb7
  have y8 := y7.trans x8
  simp only [hb8, coreS, Value.cells, Value.oneCell', Nat.reduceAdd, Nat.reduceSub, Nat.reduceMul, Nat.reduceLeDiff, Int.reduceEq, Nat.reduceEqDiff, M46Fs4]
  refine CallsH.mono (cover29R S M a n c ws h8 (hr.ext y8) hn (by omega)) ?_
  rintro v h9 ⟨⟨aX, cX, X, aY, cY, Y, rfl, IX, IY, lX, lY, hno, hok⟩, x9⟩
  have hb9 := x9.get hb8
  have y9 := y8.trans x9
  have t1 : ¬ (24 : Int) < ((X.length : Nat) : Int) := by omega
  have t2 : ¬ (24 : Int) < ((Y.length : Nat) : Int) := by omega
  have x69 := ((x7.trans x8).trans x9)
  simp only [coreS, Value.cells, Value.oneCell', Nat.reduceAdd, Nat.reduceSub, Nat.reduceMul, Nat.reduceLeDiff, Int.reduceEq, Nat.reduceEqDiff, M46Fs4]
  refine WP_draw (by kernel_rfl) sta_ext [(0, 0), (1, 0), (2, 0), (3, 0), (4, 0), (5, 0), (6, 0), (7, 0), (8, 0), (9, 0), (10, 0), (11, 0), (12, 0), (13, 0), (14, 0), (15, 0), (16, 0), (17, 0), (18, 0), (19, 0), (20, 0), (21, 0), (22, 0), (23, 0), (24, 0), (25, 0), (26, 0), (27, 0), (28, 0), (29, 0), (30, 0), (31, 0), (32, 0), (33, 0), (34, 0), (35, 0), (36, 0), (37, 0), (38, 0), (39, 0), (40, 0)] (by kernel_rfl) rfl (by kernel_rfl) ?_
  simp only [hb9, coreS, Value.cells, Value.oneCell', Nat.reduceAdd, Nat.reduceSub, Nat.reduceMul, Nat.reduceLeDiff, Int.reduceEq, Nat.reduceEqDiff, drawS, M46Fs4]
  refine cQ_ext _ (fun h' x' => checkList30 S M a n c ws bL mL kL L h' (hr.ext (y9.trans x')) hn (by omega) (dL.ext (y9.trans x')) (by omega)) ?_
  simp only [hb9, coreS, Value.cells, Value.oneCell', Nat.reduceAdd, Nat.reduceSub, Nat.reduceMul, Nat.reduceLeDiff, Int.reduceEq, Nat.reduceEqDiff, drawS, M46Fs4]
  refine cQ_ext _ (fun h' x' => checkList31 S M a n c ws bL mL kL L h' (hr.ext (y9.trans x')) hn (by omega) (dL.ext (y9.trans x')) (by omega)) ?_
  simp only [decide_true, Bool.not_true, coreS, Value.cells, Value.oneCell', Nat.reduceAdd, Nat.reduceSub, Nat.reduceMul, Nat.reduceLeDiff, Int.reduceEq, Nat.reduceEqDiff, drawS, M46Fs4]
  have x79 := x6.trans x69
  refine cQ_ext (.bool true) (fun h' x' => CallsH.mono (ints24 aP aD _ cP _ cD _ _ h' ((IP.ext x79).ext x') ((ID.ext x69).ext x') (by omega)) fun v h' q => ⟨by rw [q.1]; simp, by rw [q.2]; exact Ext.refl _⟩) ?_
  simp only [decide_true, Bool.not_true, coreS, Value.cells, Value.oneCell', Nat.reduceAdd, Nat.reduceSub, Nat.reduceMul, Nat.reduceLeDiff, Int.reduceEq, Nat.reduceEqDiff, drawS, M46Fs4]
  refine cQ_ext (.bool false) (fun h' x' => CallsH.mono (long16 aX X.length cX h') fun v h' q => ⟨by rw [q.1, decide_eq_false t1], by rw [q.2]; exact Ext.refl _⟩) ?_
  simp only [decide_true, Bool.not_true, coreS, Value.cells, Value.oneCell', Nat.reduceAdd, Nat.reduceSub, Nat.reduceMul, Nat.reduceLeDiff, Int.reduceEq, Nat.reduceEqDiff, drawS, M46Fs4]
  refine cQ_ext (.bool false) (fun h' x' => CallsH.mono (long16 aY Y.length cY h') fun v h' q => ⟨by rw [q.1, decide_eq_false t2], by rw [q.2]; exact Ext.refl _⟩) ?_
  simp only [decide_true, Bool.not_true, coreS, Value.cells, Value.oneCell', Nat.reduceAdd, Nat.reduceSub, Nat.reduceMul, Nat.reduceLeDiff, Int.reduceEq, Nat.reduceEqDiff, drawS, M46Fs4]
  refine hvK_mk fun hA xA => ?_
  have yA := y9.trans xA
  have hbA := xA.get hb9
  by_cases hc : chk S M ws = 0
  · obtain ⟨k1, k2⟩ := hok hc
    simp only [hc, hbA, decide_true, decide_false, Bool.not_true, coreS, Value.cells, Value.oneCell', Nat.reduceAdd, Nat.reduceSub, Nat.reduceMul, Nat.reduceLeDiff, Int.reduceEq, Nat.reduceEqDiff, M46Fs4]
    refine CallsH.mono (cover28 S M a n c ws aX X.length cX (zsN X) aY Y.length cY (zsN Y) hA (hr.ext yA) hn (by omega) (IX.ext xA) (IY.ext xA) (by omega) (by omega)) ?_
    rintro v hB ⟨rfl, xB⟩
    rw [k1, k2]
    simp only [decide_true, decide_false, coreS, Value.cells, Value.oneCell', Nat.reduceAdd, Nat.reduceSub, Nat.reduceMul, Nat.reduceLeDiff, Int.reduceEq, Nat.reduceEqDiff, M46Fs4]
    refine CallsH.mono (out _ (yA.trans xB)) ?_
    rintro v hC ⟨rfl, xC⟩
    simp only [coreS, Value.cells, Value.oneCell', Nat.reduceAdd, Nat.reduceSub, Nat.reduceMul, Nat.reduceLeDiff, Int.reduceEq, Nat.reduceEqDiff, M46Fs4]
    exact xC
  · obtain ⟨hX0, hY0⟩ := hno hc
    have hz1 : ((X.length : Nat) : Int) = 0 := by rw [hX0]; rfl
    have hz2 : ((Y.length : Nat) : Int) = 0 := by rw [hY0]; rfl
    simp only [hc, hz1, hz2, decide_true, decide_false, Bool.not_false, coreS, Value.cells, Value.oneCell', Nat.reduceAdd, Nat.reduceSub, Nat.reduceMul, Nat.reduceLeDiff, Int.reduceEq, Nat.reduceEqDiff, M46Fs4]
    refine CallsH.mono (out _ yA) ?_
    rintro v hC ⟨rfl, xC⟩
    simp only [coreS, Value.cells, Value.oneCell', Nat.reduceAdd, Nat.reduceSub, Nat.reduceMul, Nat.reduceLeDiff, Int.reduceEq, Nat.reduceEqDiff, M46Fs4]
    exact xC
end Go.Proofs.Ytmgkeeefbfefgaa
