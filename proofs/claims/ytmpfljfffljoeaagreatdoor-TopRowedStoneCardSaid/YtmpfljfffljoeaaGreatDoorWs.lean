/- The examples of the layers hold, if those of their chapters do. No condition. -/
import Derived.Test.YtmpfljfffljoeaaGreatDoorW01
import Derived.Test.YtmpfljfffljoeaaGreatDoorW02
import Derived.Test.YtmpfljfffljoeaaGreatDoorW03
import Derived.Test.YtmpfljfffljoeaaGreatDoorW04
import Derived.Test.YtmpfljfffljoeaaGreatDoorW05
import Derived.Test.YtmpfljfffljoeaaGreatDoorW06
import Derived.Test.YtmpfljfffljoeaaGreatDoorW07
import Derived.Test.YtmpfljfffljoeaaGreatDoorW08
import Derived.Test.YtmpfljfffljoeaaGreatDoorW09
import Derived.Test.YtmpfljfffljoeaaGreatDoorW10
import Derived.Test.YtmpfljfffljoeaaGreatDoorRunM
namespace Go.Proofs.YtmpfljfffljoeaaGreatDoor.Ws
open Go Go.Proofs Go.Run Go.Eng
set_option maxRecDepth 100000
noncomputable def t3 : List (Nat × Ans) := [(349, flatM memT), (350, flatM memT), (351, flatM memT)]
theorem l3 : LibOk Tryz.prog (withM Pt.pr (memsOf t3)) := memsOf_lb Pt.lb t3 (List.forall_mem_cons.2 ⟨flatM_ok (memT_sound W01.works349), List.forall_mem_cons.2 ⟨flatM_ok (memT_sound W02.works350), List.forall_mem_cons.2 ⟨flatM_ok (memT_sound W03.works351), fun _ h => (List.not_mem_nil h).elim⟩⟩⟩)
theorem b3 : lastB (withM Pt.pr (memsOf t3)) 1000 ⟨depthOf Pt.ff279.nt, Pt.ff279.nt⟩ Pt.ff279.res (segs Pt.ff279.body) (.leaf undefT) [] s0 = true := by kernel_rfl
theorem works279 (h : Eng.Heap) : CallsH Tryz.prog 279 #[] h (fun v h' => v = .bool true ∧ Ext h h') :=
  chain_calls (withM_ok Pt.ok _) l3 (f := 279) (fi := Pt.ff279) (by kernel_rfl) (by decide +kernel) (.last b3) h
noncomputable def t4 : List (Nat × Ans) := [(279, flatM memT), (280, flatM memT)]
theorem l4 : LibOk Tryz.prog (withM Pt.pr (memsOf t4)) := memsOf_lb Pt.lb t4 (List.forall_mem_cons.2 ⟨flatM_ok (memT_sound works279), List.forall_mem_cons.2 ⟨flatM_ok (memT_sound W04.works280), fun _ h => (List.not_mem_nil h).elim⟩⟩)
theorem b4 : lastB (withM Pt.pr (memsOf t4)) 1000 ⟨depthOf Pt.ff221.nt, Pt.ff221.nt⟩ Pt.ff221.res (segs Pt.ff221.body) (.leaf undefT) [] s0 = true := by kernel_rfl
theorem works221 (h : Eng.Heap) : CallsH Tryz.prog 221 #[] h (fun v h' => v = .bool true ∧ Ext h h') :=
  chain_calls (withM_ok Pt.ok _) l4 (f := 221) (fi := Pt.ff221) (by kernel_rfl) (by decide +kernel) (.last b4) h
noncomputable def t5 : List (Nat × Ans) := [(221, flatM memT), (222, flatM memT)]
theorem l5 : LibOk Tryz.prog (withM Pt.pr (memsOf t5)) := memsOf_lb Pt.lb t5 (List.forall_mem_cons.2 ⟨flatM_ok (memT_sound works221), List.forall_mem_cons.2 ⟨flatM_ok (memT_sound W05.works222), fun _ h => (List.not_mem_nil h).elim⟩⟩)
theorem b5 : lastB (withM Pt.pr (memsOf t5)) 1000 ⟨depthOf Pt.ff175.nt, Pt.ff175.nt⟩ Pt.ff175.res (segs Pt.ff175.body) (.leaf undefT) [] s0 = true := by kernel_rfl
theorem works175 (h : Eng.Heap) : CallsH Tryz.prog 175 #[] h (fun v h' => v = .bool true ∧ Ext h h') :=
  chain_calls (withM_ok Pt.ok _) l5 (f := 175) (fi := Pt.ff175) (by kernel_rfl) (by decide +kernel) (.last b5) h
noncomputable def t6 : List (Nat × Ans) := [(175, flatM memT), (176, flatM memT)]
theorem l6 : LibOk Tryz.prog (withM Pt.pr (memsOf t6)) := memsOf_lb Pt.lb t6 (List.forall_mem_cons.2 ⟨flatM_ok (memT_sound works175), List.forall_mem_cons.2 ⟨flatM_ok (memT_sound W06.works176), fun _ h => (List.not_mem_nil h).elim⟩⟩)
theorem b6 : lastB (withM Pt.pr (memsOf t6)) 1000 ⟨depthOf Pt.ff133.nt, Pt.ff133.nt⟩ Pt.ff133.res (segs Pt.ff133.body) (.leaf undefT) [] s0 = true := by kernel_rfl
theorem works133 (h : Eng.Heap) : CallsH Tryz.prog 133 #[] h (fun v h' => v = .bool true ∧ Ext h h') :=
  chain_calls (withM_ok Pt.ok _) l6 (f := 133) (fi := Pt.ff133) (by kernel_rfl) (by decide +kernel) (.last b6) h
noncomputable def t7 : List (Nat × Ans) := [(133, flatM memT), (134, flatM memT)]
theorem l7 : LibOk Tryz.prog (withM Pt.pr (memsOf t7)) := memsOf_lb Pt.lb t7 (List.forall_mem_cons.2 ⟨flatM_ok (memT_sound works133), List.forall_mem_cons.2 ⟨flatM_ok (memT_sound W07.works134), fun _ h => (List.not_mem_nil h).elim⟩⟩)
theorem b7 : lastB (withM Pt.pr (memsOf t7)) 1000 ⟨depthOf Pt.ff101.nt, Pt.ff101.nt⟩ Pt.ff101.res (segs Pt.ff101.body) (.leaf undefT) [] s0 = true := by kernel_rfl
theorem works101 (h : Eng.Heap) : CallsH Tryz.prog 101 #[] h (fun v h' => v = .bool true ∧ Ext h h') :=
  chain_calls (withM_ok Pt.ok _) l7 (f := 101) (fi := Pt.ff101) (by kernel_rfl) (by decide +kernel) (.last b7) h
noncomputable def t8 : List (Nat × Ans) := [(101, flatM memT), (102, flatM memT)]
theorem l8 : LibOk Tryz.prog (withM Pt.pr (memsOf t8)) := memsOf_lb Pt.lb t8 (List.forall_mem_cons.2 ⟨flatM_ok (memT_sound works101), List.forall_mem_cons.2 ⟨flatM_ok (memT_sound W08.works102), fun _ h => (List.not_mem_nil h).elim⟩⟩)
theorem b8 : lastB (withM Pt.pr (memsOf t8)) 1000 ⟨depthOf Pt.ff59.nt, Pt.ff59.nt⟩ Pt.ff59.res (segs Pt.ff59.body) (.leaf undefT) [] s0 = true := by kernel_rfl
theorem works59 (h : Eng.Heap) : CallsH Tryz.prog 59 #[] h (fun v h' => v = .bool true ∧ Ext h h') :=
  chain_calls (withM_ok Pt.ok _) l8 (f := 59) (fi := Pt.ff59) (by kernel_rfl) (by decide +kernel) (.last b8) h
noncomputable def t9 : List (Nat × Ans) := [(59, flatM memT), (60, flatM memT)]
theorem l9 : LibOk Tryz.prog (withM Pt.pr (memsOf t9)) := memsOf_lb Pt.lb t9 (List.forall_mem_cons.2 ⟨flatM_ok (memT_sound works59), List.forall_mem_cons.2 ⟨flatM_ok (memT_sound W09.works60), fun _ h => (List.not_mem_nil h).elim⟩⟩)
theorem b9 : lastB (withM Pt.pr (memsOf t9)) 1000 ⟨depthOf Pt.ff34.nt, Pt.ff34.nt⟩ Pt.ff34.res (segs Pt.ff34.body) (.leaf undefT) [] s0 = true := by kernel_rfl
theorem works34 (h : Eng.Heap) : CallsH Tryz.prog 34 #[] h (fun v h' => v = .bool true ∧ Ext h h') :=
  chain_calls (withM_ok Pt.ok _) l9 (f := 34) (fi := Pt.ff34) (by kernel_rfl) (by decide +kernel) (.last b9) h
noncomputable def t10 : List (Nat × Ans) := [(34, flatM memT), (35, flatM memT)]
theorem l10 : LibOk Tryz.prog (withM Pt.pr (memsOf t10)) := memsOf_lb Pt.lb t10 (List.forall_mem_cons.2 ⟨flatM_ok (memT_sound works34), List.forall_mem_cons.2 ⟨flatM_ok (memT_sound W10.works35), fun _ h => (List.not_mem_nil h).elim⟩⟩)
theorem b10 : lastB (withM Pt.pr (memsOf t10)) 1000 ⟨depthOf Pt.ff10.nt, Pt.ff10.nt⟩ Pt.ff10.res (segs Pt.ff10.body) (.leaf undefT) [] s0 = true := by kernel_rfl
theorem works10 (h : Eng.Heap) : CallsH Tryz.prog 10 #[] h (fun v h' => v = .bool true ∧ Ext h h') :=
  chain_calls (withM_ok Pt.ok _) l10 (f := 10) (fi := Pt.ff10) (by kernel_rfl) (by decide +kernel) (.last b10) h
end Go.Proofs.YtmpfljfffljoeaaGreatDoor.Ws
