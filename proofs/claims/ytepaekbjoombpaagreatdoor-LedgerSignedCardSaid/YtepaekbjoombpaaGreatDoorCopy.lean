/- copyCheck marks a builder with its own address. No condition. -/
import Derived.Test.YtepaekbjoombpaaGreatDoorTab
import Derived.Test.YtepaekbjoombpaaGreatDoorEngM
import Derived.Test.YtepaekbjoombpaaGreatDoorRunU
import Derived.Laws.Externs
import Derived.Lib.Builder
namespace Go.Proofs.YtepaekbjoombpaaGreatDoor
open Go Go.Proofs Go.Eng Go.Run Tab
set_option maxRecDepth 100000
set_option linter.unusedSimpArgs false
set_option linter.unusedVariables false
set_option linter.defProp false
def CopyFs117 := (And.intro (And.intro @agg113 (And.intro @fo115_0 @inf113)) (And.intro @sz113 (And.intro @Tryz.underlying113 @Tryz.underlying182)))
theorem noEsc (x : Value) (w : World) : (callFunc 147 #[x]).run Tryz.prog w = .ok (.value x) w := by
  rw [run_callFunc_extern (fn := Tryz.f147) (by kernel_rfl) (by kernel_rfl) (by kernel_rfl) (by kernel_rfl) (e := Extern.AbiNoEscape.same) (by kernel_rfl)]
  rfl
theorem ptrNil {P : Program} {e : Env} {h : Eng.Heap} {ty u yt el : TypeId} (hu : P.underlying u = some (.pointer el)) {x y : Operand} {a : Option Addr} (hx : ev e x = .pointer a) (hy : ev e y = .pointer none) {K : Value → Eng.Heap → Prop} (H : K (.bool a.isNone) h) : opSem P (.binOp .eql u x y yt) ty e h K :=
  opSem_pure rfl _ H fun w _ => by simp [execOp, hx, hy, eqGuard, Go.binOp, eq_ptr hu]
theorem ptrSame {P : Program} {e : Env} {h : Eng.Heap} {ty u yt el : TypeId} {j : TypeInfo} (hu : P.underlying u = some (.pointer el)) (hj : P.info? el = some j) {x y : Operand} {a : Addr} (hx : ev e x = .pointer (some a)) (hy : ev e y = .pointer (some a)) {K : Value → Eng.Heap → Prop} (H : K (.bool false) h) : opSem P (.binOp .neq u x y yt) ty e h K :=
  opSem_pure rfl _ H fun w _ => by simp [execOp, hx, hy, eqGuard, Lib.run_neq_ptr_same w a hu hj]
theorem cvW_ptr {a : Option Addr} {u s : Option TypeDesc} {F : Prop} {h : Eng.Heap} {K : Value → Eng.Heap → Prop} : cvW (.pointer a) u s F h K = F := by unfold cvW; rfl
theorem lies115 : liesAt Tryz.prog Tryz.prog.depth 115 (2 / Tryz.prog.cellsOf 115) 0 115 1 = true := by kernel_rfl
theorem binW_ptr {op : BinOp} {a b : Option Addr} {h : Eng.Heap} {K : Value → Eng.Heap → Prop} {F : Prop} : binW op (.pointer a) (.pointer b) h K F = F := by unfold binW; rfl
theorem conv_to {P : Program} {e : Env} {h : Eng.Heap} {ty s d : TypeId} {x : Operand} {a : Addr} (hrun : ∀ w : World, w.heap = h → (convert s d (.pointer (some a))).run P w = .ok (.pointer (some a)) w) (hx : ev e x = .pointer (some a)) {K : Value → Eng.Heap → Prop} (H : K (.pointer (some a)) h) : opSem P (.convert s d x) ty e h K :=
  opSem_pure rfl _ H fun w hw => by
    simp only [execOp, hx, Sem.run_bind, hrun w hw, Result.andThen_ok]
    rfl
theorem callN {e : Env} {h : Eng.Heap} {ty : TypeId} {x : Operand} {v : Value} {ats : Array TypeId} (hx : ev e x = v) {K : Value → Eng.Heap → Prop} (H : K v h) : opSem Tryz.prog (.call ⟨.value (.func 147), #[x], ats⟩) ty e h K :=
  opSem_pure rfl v H fun w hw => by
    have e1 : ev e (Operand.func 147) = Value.func (.func 147) #[] #[] := rfl
    simp only [execOp, resolve, e1, Deferred.ofValue, invoke, Sem.run_bind, Sem.run_pure, Result.andThen_ok]
    have := noEsc v w
    simpa [hx] using this
theorem copyQ : CopyQ Tryz.prog 117 115 := by
  intro h r c d hr hc
  have hlt := lt_of_get hr
  have hne : ¬ (r = h.size) := by omega
  refine CallsH_of_WP Tryz.func117 rfl bod117 ?_
  simp only [Tryz.ntmps117, Tryz.results117, coreS, Value.cells, Value.oneCell', Nat.reduceAdd, Nat.reduceSub, Nat.reduceMul, Nat.reduceLeDiff, Int.reduceEq, Nat.reduceEqDiff, CopyFs117]
  refine WP_seq (exec_sound _ _ _ _ _ ?_)
  rcases hc with rfl | rfl
  · simp only [hr, splice, coreS, Value.cells, Value.oneCell', Nat.reduceAdd, Nat.reduceSub, Nat.reduceMul, Nat.reduceLeDiff, Int.reduceEq, Nat.reduceEqDiff, CopyFs117]
    rw [binW_ptr]
    refine ptrNil Tryz.underlying113 (by rfl) (by rfl) ?_
    simp only [Option.isNone, coreS, Value.cells, Value.oneCell', Nat.reduceAdd, Nat.reduceSub, Nat.reduceMul, Nat.reduceLeDiff, Int.reduceEq, Nat.reduceEqDiff, CopyFs117]
    refine WP_cond (b := true) rfl ?_
    simp only [if_true]
    refine WP_regionJ 3 ?_
    simp only [execJ]
    refine ⟨trivial, ?_⟩
    simp only [coreS, Value.cells, Value.oneCell', Nat.reduceAdd, Nat.reduceSub, Nat.reduceMul, Nat.reduceLeDiff, Int.reduceEq, Nat.reduceEqDiff, CopyFs117]
    rw [cvW_ptr]
    obtain ⟨j, hj⟩ := Option.isSome_iff_exists.1 inf115
    have hjs : j.size = 2 := by have := sz115; simp [szT, hj] at this; exact this
    have hsh : ∀ w : World, w.heap = h → w.shape? r = some (115, 2) := fun w hw => by unfold World.shape?; rw [hw, hr]; rfl
    refine conv_to (fun w hw => Lib.run_to_unsafe w ⟨r, 0, none⟩ Tryz.underlying113 Tryz.underlying182 hj (by omega) (hsh w hw) (Nat.zero_lt_succ 1)) (by rfl) ?_
    refine callN (v := .pointer (some ⟨r, 0, none⟩)) (by rfl) ?_
    rw [cvW_ptr]
    refine conv_to (fun w hw => Lib.run_from_unsafe w ⟨r, 0, none⟩ Tryz.underlying182 Tryz.underlying113 hj (hsh w hw) lies115) (by rfl) ?_
    simp only [hr, splice, coreS, stK_some, splice, Value.cells, Value.oneCell', Nat.reduceAdd, Nat.reduceSub, Nat.reduceMul, Nat.reduceLeDiff, Int.reduceEq, Nat.reduceEqDiff, CopyFs117]
    rfl
  · simp only [hr, splice, coreS, Value.cells, Value.oneCell', Nat.reduceAdd, Nat.reduceSub, Nat.reduceMul, Nat.reduceLeDiff, Int.reduceEq, Nat.reduceEqDiff, CopyFs117]
    rw [binW_ptr]
    refine ptrNil Tryz.underlying113 (by rfl) (by rfl) ?_
    simp only [Option.isNone, coreS, Value.cells, Value.oneCell', Nat.reduceAdd, Nat.reduceSub, Nat.reduceMul, Nat.reduceLeDiff, Int.reduceEq, Nat.reduceEqDiff, CopyFs117]
    refine WP_cond (b := false) rfl ?_
    simp only [Bool.false_eq_true, if_false]
    refine exec_sound _ _ _ _ _ ?_
    simp only [hr, splice, coreS, Value.cells, Value.oneCell', Nat.reduceAdd, Nat.reduceSub, Nat.reduceMul, Nat.reduceLeDiff, Int.reduceEq, Nat.reduceEqDiff, CopyFs117]
    rw [binW_ptr]
    obtain ⟨j, hj⟩ := Option.isSome_iff_exists.1 inf115
    refine ptrSame Tryz.underlying113 hj (by rfl) (by rfl) ?_
    simp only [hr, splice, coreS, Value.cells, Value.oneCell', Nat.reduceAdd, Nat.reduceSub, Nat.reduceMul, Nat.reduceLeDiff, Int.reduceEq, Nat.reduceEqDiff, CopyFs117]
    apply Array.ext_getElem?
    intro j
    rw [Array.getElem?_setIfInBounds]
    split
    · rename_i hj
      subst hj
      exact hr
    · rfl
end Go.Proofs.YtepaekbjoombpaaGreatDoor
