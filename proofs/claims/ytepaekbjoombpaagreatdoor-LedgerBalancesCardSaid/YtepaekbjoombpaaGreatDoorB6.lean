/- LedgerBalances returns true. -/
import Derived.Test.YtepaekbjoombpaaGreatDoorB5
import Derived.Test.YtepaekbjoombpaaGreatDoorWork
namespace Go.Proofs.YtepaekbjoombpaaGreatDoor
open Go Go.Proofs Go.Eng Tab
set_option maxRecDepth 100000
set_option linter.unusedSimpArgs false
set_option linter.unusedVariables false
set_option maxHeartbeats 2000000
theorem balances4 (acc cl : Int) (a : Option Addr) (n c : Nat) (es : List En) (who lo hi : Int) (h : Eng.Heap) (hr : Row h a (ensV es)) (hn : n = es.length) :
    CallsH Tryz.prog 4 #[.agg #[.int .i64 acc, .int .i64 cl, .slice a n c], .int .i64 who, .int .i64 lo, .int .i64 hi] h (fun v h' => v = .bool true ∧ Ext h h') := by
  refine CallsH_of_exec Tryz.func4 rfl bod4 ?_
  simp only [Tryz.ntmps4, Tryz.results4, coreS, stK_some, splice, Value.cells, Value.oneCell', Nat.reduceAdd, Nat.reduceSub, Nat.reduceMul, Nat.reduceLeDiff, Int.reduceEq, Nat.reduceEqDiff, agg24, inf24, sz24]
  refine CallsH.mono (great17 acc cl a n c _) ?_
  rintro v h1 ⟨rfl, x1⟩
  have hb := x1.get (push_new (h := h))
  have y1 := x1.of_push
  by_cases hg : 26 < (n : Int)
  · simp only [hg, decide_true, coreS, Value.cells, Value.oneCell', Nat.reduceAdd, Nat.reduceSub, Nat.reduceMul, Nat.reduceLeDiff, Int.reduceEq, Nat.reduceEqDiff, agg24, inf24, sz24]
    refine CallsH.mono (works18 _) ?_
    rintro v h2 ⟨rfl, x2⟩
    simp only [coreS, Value.cells, Value.oneCell', Nat.reduceAdd, Nat.reduceSub, Nat.reduceMul, Nat.reduceLeDiff, Int.reduceEq, Nat.reduceEqDiff, agg24, inf24, sz24]
    exact y1.trans x2
  · simp only [hg, hb, decide_false, coreS, Value.cells, Value.oneCell', Nat.reduceAdd, Nat.reduceSub, Nat.reduceMul, Nat.reduceLeDiff, Int.reduceEq, Nat.reduceEqDiff, agg24, inf24, sz24]
    have hl : n ≤ 1000000 := by omega
    refine CallsH.mono (balances28 acc cl a n c es hi _ (hr.ext y1) hn hl) ?_
    rintro v h2 ⟨⟨b2, m2, k2, rfl, I2, l2⟩, x2⟩
    have hb2 := x2.get hb
    have y2 := y1.trans x2
    simp only [hb2, coreS, Value.cells, Value.oneCell', Nat.reduceAdd, Nat.reduceSub, Nat.reduceMul, Nat.reduceLeDiff, Int.reduceEq, Nat.reduceEqDiff, agg24, inf24, sz24]
    refine CallsH.mono (balances29 acc cl a n c es hi _ (hr.ext y2) hn hl) ?_
    rintro v h3 ⟨⟨b3, m3, k3, rfl, I3, l3⟩, x3⟩
    have hb3 := x3.get hb2
    have y3 := y2.trans x3
    simp only [hb3, coreS, Value.cells, Value.oneCell', Nat.reduceAdd, Nat.reduceSub, Nat.reduceMul, Nat.reduceLeDiff, Int.reduceEq, Nat.reduceEqDiff, agg24, inf24, sz24]
    refine CallsH.mono (moves30 acc cl a n c es who lo hi _ (hr.ext y3) hn hl) ?_
    rintro v h4 ⟨⟨b4, m4, k4, rfl, I4, l4⟩, x4⟩
    have hb4 := x4.get hb3
    have y4 := y3.trans x4
    simp only [hb4, coreS, Value.cells, Value.oneCell', Nat.reduceAdd, Nat.reduceSub, Nat.reduceMul, Nat.reduceLeDiff, Int.reduceEq, Nat.reduceEqDiff, agg24, inf24, sz24]
    refine CallsH.mono (moves31 acc cl a n c es who lo hi _ (hr.ext y4) hn hl) ?_
    rintro v h5 ⟨⟨b5, m5, k5, rfl, I5, l5⟩, x5⟩
    have y5 := y4.trans x5
    simp only [coreS, Value.cells, Value.oneCell', Nat.reduceAdd, Nat.reduceSub, Nat.reduceMul, Nat.reduceLeDiff, Int.reduceEq, Nat.reduceEqDiff, agg24, inf24, sz24]
    refine CallsH.mono (longs32 b2 b3 m2 k2 m3 k3 _ _ h5 (((I2.ext x3).ext x4).ext x5) ((I3.ext x4).ext x5) (by omega) (by omega)) ?_
    rintro v h6 ⟨rfl, rfl⟩
    simp only [decide_true, coreS, Value.cells, Value.oneCell', Nat.reduceAdd, Nat.reduceSub, Nat.reduceMul, Nat.reduceLeDiff, Int.reduceEq, Nat.reduceEqDiff, agg24, inf24, sz24]
    refine CallsH.mono (ints33 b4 b5 m4 k4 m5 k5 _ _ h6 (I4.ext x5) I5 (by omega) (by omega)) ?_
    rintro v h7 ⟨rfl, rfl⟩
    simp only [decide_true, coreS, Value.cells, Value.oneCell', Nat.reduceAdd, Nat.reduceSub, Nat.reduceMul, Nat.reduceLeDiff, Int.reduceEq, Nat.reduceEqDiff, agg24, inf24, sz24]
    refine CallsH.mono (works18 _) ?_
    rintro v h8 ⟨rfl, x8⟩
    simp only [coreS, Value.cells, Value.oneCell', Nat.reduceAdd, Nat.reduceSub, Nat.reduceMul, Nat.reduceLeDiff, Int.reduceEq, Nat.reduceEqDiff, agg24, inf24, sz24]
    exact y5.trans x8
end Go.Proofs.YtepaekbjoombpaaGreatDoor
