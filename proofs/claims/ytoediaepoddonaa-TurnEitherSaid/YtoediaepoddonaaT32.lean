/- Walks: TurnFinds. -/
import Derived.Test.YtoediaepoddonaaT31
namespace Go.Proofs.Ytoediaepoddonaa
open Go Go.Proofs Go.Eng Go.Run Tab
set_option maxRecDepth 100000
set_option linter.unusedSimpArgs false
set_option linter.unusedVariables false
set_option maxHeartbeats 1000000
theorem turnFinds5 (shops : Int) (a1 : Option Addr) (n1 c1 : Nat) (xs1 : List Int) (one two : Int) (h : Eng.Heap) (I1 : IntsV h a1 n1 xs1) (hc1 : n1 ≤ c1) (hm1 : c1 ≤ maxLen) (hlo : -9223372036854775808 ≤ two ∧ two ≤ 9223372036854775807) :
    CallsH Try.prog 5 #[.int .i64 shops, .slice a1 n1 c1, .int .i64 one, .int .i64 two] h (fun v h' => v = .bool true ∧ Ext h h') := by
  refine CallsH_of_exec Try.func5 rfl bod5 ?_
  simp only [Try.ntmps5, Try.results5, coreS, stK_some, splice, Value.cells, Value.oneCell', Nat.reduceAdd, Nat.reduceSub, Nat.reduceMul, Nat.reduceLeDiff, Int.reduceEq, Nat.reduceEqDiff]
  refine CallsH.mono (great17 a1 n1 c1 h) ?_
  rintro v h' ⟨rfl, rfl⟩
  simp only [coreS, Value.cells, Value.oneCell', Nat.reduceAdd, Nat.reduceSub, Nat.reduceMul, Nat.reduceLeDiff, Int.reduceEq, Nat.reduceEqDiff]
  refine ⟨fun hg => ?_, fun hg => ?_⟩
  · refine CallsH.mono (works18 _) ?_
    rintro v h2 ⟨rfl, x2⟩
    simp only [coreS, Value.cells, Value.oneCell', Nat.reduceAdd, Nat.reduceSub, Nat.reduceMul, Nat.reduceLeDiff, Int.reduceEq, Nat.reduceEqDiff]
    exact x2
  refine CallsH.mono (find32 shops a1 n1 c1 xs1 _ I1 (by omega)) ?_
  rintro v h3 ⟨x3, rfl⟩
  simp only [coreS, Value.cells, Value.oneCell', Nat.reduceAdd, Nat.reduceSub, Nat.reduceMul, Nat.reduceLeDiff, Int.reduceEq, Nat.reduceEqDiff]
  refine CallsH.mono (findR33 shops a1 n1 c1 xs1 _ (I1.ext x3) hc1 (by omega)) ?_
  rintro v h4 ⟨x4, rfl⟩
  have x34 := x3.trans x4
  simp only [coreS, Value.cells, Value.oneCell', Nat.reduceAdd, Nat.reduceSub, Nat.reduceMul, Nat.reduceLeDiff, Int.reduceEq, Nat.reduceEqDiff]
  refine CallsH.mono (clash34 shops a1 n1 c1 xs1 _ (I1.ext x34) (by omega)) ?_
  rintro v h5 ⟨x5, rfl⟩
  have x35 := x34.trans x5
  simp only [coreS, Value.cells, Value.oneCell', Nat.reduceAdd, Nat.reduceSub, Nat.reduceMul, Nat.reduceLeDiff, Int.reduceEq, Nat.reduceEqDiff]
  refine CallsH.mono (clashR35 shops a1 n1 c1 xs1 _ (I1.ext x35) hc1 (by omega)) ?_
  rintro v h6 ⟨x6, rfl⟩
  have x36 := x35.trans x6
  simp only [decide_true, coreS, Value.cells, Value.oneCell', Nat.reduceAdd, Nat.reduceSub, Nat.reduceMul, Nat.reduceLeDiff, Int.reduceEq, Nat.reduceEqDiff]
  refine CallsH.mono (checkClash36 shops a1 n1 c1 xs1 one two _ (I1.ext x36) (by omega) hlo) ?_
  rintro v h7 ⟨rfl, x7⟩
  have x37 := x36.trans x7
  simp only [coreS, Value.cells, Value.oneCell', Nat.reduceAdd, Nat.reduceSub, Nat.reduceMul, Nat.reduceLeDiff, Int.reduceEq, Nat.reduceEqDiff]
  refine CallsH.mono (checkClash37 shops a1 n1 c1 xs1 one two _ (I1.ext x37) hc1 (by omega)) ?_
  rintro v h8 ⟨rfl, x8⟩
  simp only [decide_true, coreS, Value.cells, Value.oneCell', Nat.reduceAdd, Nat.reduceSub, Nat.reduceMul, Nat.reduceLeDiff, Int.reduceEq, Nat.reduceEqDiff]
  refine CallsH.mono (works18 _) ?_
  rintro v h9 ⟨rfl, x9⟩
  simp only [coreS, Value.cells, Value.oneCell', Nat.reduceAdd, Nat.reduceSub, Nat.reduceMul, Nat.reduceLeDiff, Int.reduceEq, Nat.reduceEqDiff]
  exact (x37.trans x8).trans x9
end Go.Proofs.Ytoediaepoddonaa
