/- LedgerOrder returns true. -/
import Derived.Test.YtepaekbjoombpaaGreatDoorD2
import Derived.Test.YtepaekbjoombpaaGreatDoorWork
import Derived.Test.YtepaekbjoombpaaGreatDoorC5
namespace Go.Proofs.YtepaekbjoombpaaGreatDoor
open Go Go.Proofs Go.Eng Go.Run Tab
set_option maxRecDepth 100000
set_option linter.unusedSimpArgs false
set_option linter.unusedVariables false
set_option maxHeartbeats 4000000
set_option linter.defProp false
def E2Fs10 := (And.intro (And.intro (And.intro (And.intro @agg22 @agg24) (And.intro @agg26 @agg3)) (And.intro (And.intro @fo24_2 @fo26_0) (And.intro @inf22 @inf24))) (And.intro (And.intro (And.intro @inf26 @inf3) (And.intro @sz22 @sz24)) (And.intro (And.intro @sz26 @sz3) (And.intro @zero24 @Tryz.underlying22))))
theorem order10 (acc cl : Int) (a : Option Addr) (n c : Nat) (es : List En) (e f : En) (h : Eng.Heap) (hr : Row h a (ensV es)) (hn : n = es.length) :
    CallsH Tryz.prog 10 #[.agg #[.int .i64 acc, .int .i64 cl, .slice a n c], .agg #[.int .i64 e.d, .int .i64 e.f, .int .i64 e.t, .int .i64 e.a], .agg #[.int .i64 f.d, .int .i64 f.f, .int .i64 f.t, .int .i64 f.a]] h (fun v h' => v = .bool true ∧ Ext h h') := by
  refine CallsH_of_exec Tryz.func10 rfl bod10 ?_
  simp only [Tryz.ntmps10, Tryz.results10, coreS, stK_some, splice, Value.cells, Value.oneCell', Nat.reduceAdd, Nat.reduceSub, Nat.reduceMul, Nat.reduceLeDiff, Int.reduceEq, Nat.reduceEqDiff, E2Fs10]
  simp only [show ¬ (h.size = h.size + 1 + 1) by omega, if_false, coreS, Value.cells, Value.oneCell', Nat.reduceAdd, Nat.reduceSub, Nat.reduceMul, Nat.reduceLeDiff, Int.reduceEq, Nat.reduceEqDiff, E2Fs10]
  refine CallsH.mono (fine42 acc cl a n c es _ (((hr.push _).push _).push _) hn) ?_
  rintro v h1 ⟨rfl, x1⟩
  have hb1 := x1.get (push_old (push_old (push_new (h := h))))
  have he1 := x1.get (push_old pn1)
  have hf1 : h1[h.size + 2]? = some (.cells #[.int .i64 f.d, .int .i64 f.f, .int .i64 f.t, .int .i64 f.a] 26) := x1.get (by rw [Array.getElem?_push, if_pos (by simp)])
  have y1 := x1.of_push.of_push.of_push
  have works : ∀ {h2 : Eng.Heap}, Ext h h2 → CallsH Tryz.prog 18 #[] h2 (fun v h' => v = .bool true ∧ Ext h h') := fun x => CallsH.mono (works18 _) fun v h' q => ⟨q.1, x.trans q.2⟩
  by_cases hc : chk acc cl es = 0
  · have hl20 := (chk_ok hc).2.1
    by_cases h18 : 18 < (n : Int)
    · simp only [hc, hb1, h18, decide_true, Bool.not_true, coreS, Value.cells, Value.oneCell', Nat.reduceAdd, Nat.reduceSub, Nat.reduceMul, Nat.reduceLeDiff, Int.reduceEq, Nat.reduceEqDiff, E2Fs10]
      refine CallsH.mono (works y1) ?_
      rintro v h2 ⟨rfl, x2⟩
      simp only [coreS, Value.cells, Value.oneCell', Nat.reduceAdd, Nat.reduceSub, Nat.reduceMul, Nat.reduceLeDiff, Int.reduceEq, Nat.reduceEqDiff, E2Fs10]
      exact x2
    · by_cases hd : e.d = f.d
      · simp only [hc, hb1, he1, hf1, h18, hd, decide_true, decide_false, Bool.not_true, coreS, Value.cells, Value.oneCell', Nat.reduceAdd, Nat.reduceSub, Nat.reduceMul, Nat.reduceLeDiff, Int.reduceEq, Nat.reduceEqDiff, E2Fs10]
        refine CallsH.mono (works y1) ?_
        rintro v h2 ⟨rfl, x2⟩
        simp only [coreS, Value.cells, Value.oneCell', Nat.reduceAdd, Nat.reduceSub, Nat.reduceMul, Nat.reduceLeDiff, Int.reduceEq, Nat.reduceEqDiff, E2Fs10]
        exact x2
      · have hl : n ≤ 1000000 := by omega
        simp only [hc, hb1, he1, hf1, h18, hd, decide_true, decide_false, Bool.not_true, coreS, Value.cells, Value.oneCell', Nat.reduceAdd, Nat.reduceSub, Nat.reduceMul, Nat.reduceLeDiff, Int.reduceEq, Nat.reduceEqDiff, E2Fs10]
        refine CallsH.mono (posted44 acc cl a n c es e _ (hr.ext y1) hn hl) ?_
        rintro v h2 ⟨⟨a2, n2, c2, rfl, r2, l2⟩, x2⟩
        have hb2 := x2.get hb1
        have he2 := x2.get he1
        have hf2 := x2.get hf1
        have y2 := y1.trans x2
        simp only [Nat.ne_of_lt (lt_of_get hb2), Nat.ne_of_lt (lt_of_get he2), Nat.ne_of_lt (lt_of_get hf2), hb2, he2, hf2, if_false, coreS, stK_some, splice, Value.cells, Value.oneCell', Nat.reduceAdd, Nat.reduceSub, Nat.reduceMul, Nat.reduceLeDiff, Int.reduceEq, Nat.reduceEqDiff, E2Fs10]
        have hx : ∀ (x : En) {h2 : Eng.Heap} {A : Option Addr} {N C : Nat}, Row h2 A (ensV (pstX acc cl es x)) → N = (pstX acc cl es x).length → N ≤ 1000000 := fun x h2 A N C _ hN => by
          have := pstX_length acc cl es x
          omega
        have k2 := push_new (h := h2) (o := .cells #[.int .i64 acc, .int .i64 cl, .slice a2 n2 c2] 24)
        have z2 := y2.push (.cells #[.int .i64 acc, .int .i64 cl, .slice a2 n2 c2] 24)
        have m2 := push_old (o := .cells #[.int .i64 acc, .int .i64 cl, .slice a2 n2 c2] 24) hb2
        have m2e := push_old (o := .cells #[.int .i64 acc, .int .i64 cl, .slice a2 n2 c2] 24) he2
        have m2f := push_old (o := .cells #[.int .i64 acc, .int .i64 cl, .slice a2 n2 c2] 24) hf2
        refine CallsH.mono (posted44 acc cl a n c es f _ (hr.ext z2) hn hl) ?_
        rintro v h3 ⟨⟨a3, n3, c3, rfl, r3, l3⟩, x3⟩
        have k2' := x3.get k2
        have he3 := x3.get m2e
        have hf3 := x3.get m2f
        have y3 := z2.trans x3
        simp only [Nat.ne_of_lt (lt_of_get k2'), Nat.ne_of_lt (lt_of_get he3), Nat.ne_of_lt (lt_of_get hf3), k2', he3, hf3, if_false, decide_true, Bool.not_true, coreS, stK_some, splice, Value.cells, Value.oneCell', Nat.reduceAdd, Nat.reduceSub, Nat.reduceMul, Nat.reduceLeDiff, Int.reduceEq, Nat.reduceEqDiff, E2Fs10]
        have k3 := push_new (h := h3) (o := .cells #[.int .i64 acc, .int .i64 cl, .slice a3 n3 c3] 24)
        have k2p := push_old (o := .cells #[.int .i64 acc, .int .i64 cl, .slice a3 n3 c3] 24) k2'
        have m3e := push_old (o := .cells #[.int .i64 acc, .int .i64 cl, .slice a3 n3 c3] 24) he3
        have z3 := y3.push (.cells #[.int .i64 acc, .int .i64 cl, .slice a3 n3 c3] 24)
        have r2' := ((r2.push (.cells #[.int .i64 acc, .int .i64 cl, .slice a2 n2 c2] 24)).ext x3).push (.cells #[.int .i64 acc, .int .i64 cl, .slice a3 n3 c3] 24)
        refine CallsH.mono (posted44 acc cl a2 n2 c2 (pstX acc cl es e) f _ r2' l2 (hx e (C := c2) r2' l2)) ?_
        rintro v h4 ⟨⟨a4, n4, c4, rfl, r4, l4⟩, x4⟩
        have k3' := x4.get k3
        have he4 := x4.get m3e
        have y4 := z3.trans x4
        simp only [Nat.ne_of_lt (lt_of_get k3'), Nat.ne_of_lt (lt_of_get he4), k3', he4, if_false, coreS, stK_some, splice, Value.cells, Value.oneCell', Nat.reduceAdd, Nat.reduceSub, Nat.reduceMul, Nat.reduceLeDiff, Int.reduceEq, Nat.reduceEqDiff, E2Fs10]
        have k4 := push_new (h := h4) (o := .cells #[.int .i64 acc, .int .i64 cl, .slice a4 n4 c4] 24)
        have z4 := y4.push (.cells #[.int .i64 acc, .int .i64 cl, .slice a4 n4 c4] 24)
        have r3' := ((r3.push (.cells #[.int .i64 acc, .int .i64 cl, .slice a3 n3 c3] 24)).ext x4).push (.cells #[.int .i64 acc, .int .i64 cl, .slice a4 n4 c4] 24)
        have r4' := r4.push (.cells #[.int .i64 acc, .int .i64 cl, .slice a4 n4 c4] 24)
        refine CallsH.mono (posted44 acc cl a3 n3 c3 (pstX acc cl es f) e _ r3' l3 (hx f (C := c3) r3' l3)) ?_
        rintro v h5 ⟨⟨a5, n5, c5, rfl, r5, l5⟩, x5⟩
        have k4' := x5.get k4
        have y5 := z4.trans x5
        simp only [Nat.ne_of_lt (lt_of_get k4'), k4', if_false, coreS, stK_some, splice, Value.cells, Value.oneCell', Nat.reduceAdd, Nat.reduceSub, Nat.reduceMul, Nat.reduceLeDiff, Int.reduceEq, Nat.reduceEqDiff, E2Fs10]
        have z5 := y5.push (.cells #[.int .i64 acc, .int .i64 cl, .slice a5 n5 c5] 24)
        have r4'' := (r4'.ext x5).push (.cells #[.int .i64 acc, .int .i64 cl, .slice a5 n5 c5] 24)
        have r5' := r5.push (.cells #[.int .i64 acc, .int .i64 cl, .slice a5 n5 c5] 24)
        have e1 : decide (pst acc cl (pstX acc cl es e) f = 0) = decide (pst acc cl es f = 0) := by
          have := pst_X (e := e) (f := f) hc (by omega)
          simp only [this]
        have e2 : decide (pst acc cl (pstX acc cl es f) e = 0) = decide (pst acc cl es e = 0) := by
          have := pst_X (e := f) (f := e) hc (by omega)
          simp only [this]
        refine eqBoolW Tryz.underlying4 rfl rfl ?_
        simp only [e1, BEq.rfl, coreS, Value.cells, Value.oneCell', Nat.reduceAdd, Nat.reduceSub, Nat.reduceMul, Nat.reduceLeDiff, Int.reduceEq, Nat.reduceEqDiff, E2Fs10]
        refine eqBoolW Tryz.underlying4 rfl rfl ?_
        simp only [e2, BEq.rfl, Nat.ne_of_lt (lt_of_get k4'), k4', if_false, coreS, Value.cells, Value.oneCell', Nat.reduceAdd, Nat.reduceSub, Nat.reduceMul, Nat.reduceLeDiff, Int.reduceEq, Nat.reduceEqDiff, E2Fs10]
        have l4' : n4 ≤ 1000000 := by have := pstX_length acc cl (pstX acc cl es e) f; have := pstX_length acc cl es e; omega
        have l5' : n5 ≤ 1000000 := by have := pstX_length acc cl (pstX acc cl es f) e; have := pstX_length acc cl es f; omega
        refine CallsH.mono (same27 _ _ _ _ a4 a5 n4 c4 n5 c5 _ _ _ r4'' r5' l4 l5 l4' l5') ?_
        rintro v h6 ⟨rfl, x6⟩
        simp only [pstX_comm hc (show es.length ≤ 18 by omega) hd, and_self, decide_true, coreS, Value.cells, Value.oneCell', Nat.reduceAdd, Nat.reduceSub, Nat.reduceMul, Nat.reduceLeDiff, Int.reduceEq, Nat.reduceEqDiff, E2Fs10]
        refine CallsH.mono (works (z5.trans x6)) ?_
        rintro v h7 ⟨rfl, x7⟩
        simp only [coreS, Value.cells, Value.oneCell', Nat.reduceAdd, Nat.reduceSub, Nat.reduceMul, Nat.reduceLeDiff, Int.reduceEq, Nat.reduceEqDiff, E2Fs10]
        exact x7
  · simp only [hc, decide_false, Bool.not_false, coreS, Value.cells, Value.oneCell', Nat.reduceAdd, Nat.reduceSub, Nat.reduceMul, Nat.reduceLeDiff, Int.reduceEq, Nat.reduceEqDiff, E2Fs10]
    refine CallsH.mono (works y1) ?_
    rintro v h2 ⟨rfl, x2⟩
    simp only [coreS, Value.cells, Value.oneCell', Nat.reduceAdd, Nat.reduceSub, Nat.reduceMul, Nat.reduceLeDiff, Int.reduceEq, Nat.reduceEqDiff, E2Fs10]
    exact x2
end Go.Proofs.YtepaekbjoombpaaGreatDoor
