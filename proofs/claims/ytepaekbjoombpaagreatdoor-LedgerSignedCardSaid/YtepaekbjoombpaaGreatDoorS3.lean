/- LedgerSigns returns true. -/
import Derived.Test.YtepaekbjoombpaaGreatDoorS2
import Derived.Test.YtepaekbjoombpaaGreatDoorWork
import Derived.Test.YtepaekbjoombpaaGreatDoorEngR
namespace Go.Eng
open Go Go.ChangeShapes Go.WideShapes Go.ChangeAt Go.RowKit
/-- A string as an argument. -/
theorem open_str {P : Program} {H : Type} {enc : TypeId × Value → H} {W : World} {base b0 : Nat} {r : Reach} {sp : Nat → Bool} {held : Bool} {t : TypeId} {v : Value} {d : DataW H} {ps : List MemPlace} (ht : P.underlying t = some .string)
    (hval : Value.okWide P W r b0 t v) (hd : DataW.Trod enc P W base sp held t v d ps) : ∃ s, v = .string s ∧ s.size ≤ 9223372036854775807 := by
  obtain ⟨s, rfl⟩ := okWide_string ht hval
  obtain ⟨fuel, hf⟩ := hd
  obtain ⟨s2, h1, _, h2⟩ := DataW.trod_string ht hf
  simp [Value.cells] at h1
  subst h1
  exact ⟨s, rfl, h2⟩
end Go.Eng
namespace Go.Proofs.YtepaekbjoombpaaGreatDoor
open Go Go.Proofs Go.Eng Tab
set_option maxRecDepth 100000
set_option linter.unusedSimpArgs false
set_option linter.unusedVariables false
set_option maxHeartbeats 2000000
theorem signs5 (s t : ByteArray) (h : Eng.Heap) (hs : s.size ≤ 9223372036854775807) (ht : t.size ≤ 9223372036854775807) : CallsH Tryz.prog 5 #[.string s, .string t] h (fun v h' => v = .bool true ∧ Ext h h') := by
  have works : ∀ {h2 : Eng.Heap}, Ext h h2 → CallsH Tryz.prog 18 #[] h2 (fun v h' => v = .bool true ∧ Ext h h') := fun x => CallsH.mono (works18 _) fun v h' q => ⟨q.1, x.trans q.2⟩
  (refine CallsH_of_exec Tryz.func5 rfl bod5 ?_; simp only [Tryz.ntmps5, Tryz.results5, coreS, stK_some, splice, Value.cells, Value.oneCell', Nat.reduceAdd, Nat.reduceSub, Nat.reduceMul, Nat.reduceLeDiff, Int.reduceEq, Nat.reduceEqDiff, Tryz.underlying9])
  by_cases h1 : 40 < s.size
  · have h1' : (40 : Int) < s.size := by omega
    simp only [h1', gd_none, decide_true, coreS, Value.cells, Value.oneCell', Nat.reduceAdd, Nat.reduceSub, Nat.reduceMul, Nat.reduceLeDiff, Int.reduceEq, Nat.reduceEqDiff, Tryz.underlying9]
    refine CallsH.mono (works (Ext.refl h)) ?_
    rintro v h2 ⟨rfl, x2⟩
    simp only [coreS, Value.cells, Value.oneCell', Nat.reduceAdd, Nat.reduceSub, Nat.reduceMul, Nat.reduceLeDiff, Int.reduceEq, Nat.reduceEqDiff, Tryz.underlying9]
    exact x2
  · have h1' : ¬ (40 : Int) < s.size := by omega
    by_cases h2 : 40 < t.size
    · have h2' : (40 : Int) < t.size := by omega
      simp only [h1', h2', gd_none, decide_true, decide_false, coreS, Value.cells, Value.oneCell', Nat.reduceAdd, Nat.reduceSub, Nat.reduceMul, Nat.reduceLeDiff, Int.reduceEq, Nat.reduceEqDiff, Tryz.underlying9]
      refine CallsH.mono (works (Ext.refl h)) ?_
      rintro v h2 ⟨rfl, x2⟩
      simp only [coreS, Value.cells, Value.oneCell', Nat.reduceAdd, Nat.reduceSub, Nat.reduceMul, Nat.reduceLeDiff, Int.reduceEq, Nat.reduceEqDiff, Tryz.underlying9]
      exact x2
    · have h2' : ¬ (40 : Int) < t.size := by omega
      simp only [h1', h2', gd_none, decide_true, decide_false, coreS, Value.cells, Value.oneCell', Nat.reduceAdd, Nat.reduceSub, Nat.reduceMul, Nat.reduceLeDiff, Int.reduceEq, Nat.reduceEqDiff, Tryz.underlying9]
      refine CallsH.mono (sign34 s h hs) ?_
      rintro v h3 ⟨rfl, x3⟩
      simp only [sgnV, coreS, Value.cells, Value.oneCell', Nat.reduceAdd, Nat.reduceSub, Nat.reduceMul, Nat.reduceLeDiff, Int.reduceEq, Nat.reduceEqDiff, Tryz.underlying9]
      refine CallsH.mono (sign35 s h3 hs) ?_
      rintro v h4 ⟨rfl, rfl⟩
      simp only [sgnV, decide_true, coreS, Value.cells, Value.oneCell', Nat.reduceAdd, Nat.reduceSub, Nat.reduceMul, Nat.reduceLeDiff, Int.reduceEq, Nat.reduceEqDiff, Tryz.underlying9]
      refine CallsH.mono (check36 t h4) ?_
      rintro v h5 ⟨rfl, x5⟩
      simp only [coreS, Value.cells, Value.oneCell', Nat.reduceAdd, Nat.reduceSub, Nat.reduceMul, Nat.reduceLeDiff, Int.reduceEq, Nat.reduceEqDiff, Tryz.underlying9]
      refine CallsH.mono (check37 t h5) ?_
      rintro v h6 ⟨rfl, rfl⟩
      simp only [decide_true, coreS, Value.cells, Value.oneCell', Nat.reduceAdd, Nat.reduceSub, Nat.reduceMul, Nat.reduceLeDiff, Int.reduceEq, Nat.reduceEqDiff, Tryz.underlying9]
      refine CallsH.mono (works (x3.trans x5)) ?_
      rintro v h7 ⟨rfl, x7⟩
      simp only [coreS, Value.cells, Value.oneCell', Nat.reduceAdd, Nat.reduceSub, Nat.reduceMul, Nat.reduceLeDiff, Int.reduceEq, Nat.reduceEqDiff, Tryz.underlying9]
      exact x7
end Go.Proofs.YtepaekbjoombpaaGreatDoor
