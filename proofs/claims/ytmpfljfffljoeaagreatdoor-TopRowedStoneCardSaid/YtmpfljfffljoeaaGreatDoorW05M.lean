/- Answers of some calls, each by runs of its own. No condition. -/
import Derived.Test.YtmpfljfffljoeaaGreatDoorRunM
import Derived.Test.YtmpfljfffljoeaaGreatDoorOk
namespace Go.Proofs.YtmpfljfffljoeaaGreatDoor.W05M
open Go Go.Proofs Go.Run Go.Eng
set_option maxRecDepth 100000
noncomputable def L378_0 : List (List T) := [[.int .i64 7], [.int .i64 8], [.int .i64 8], [.int .i64 9], [.int .i64 9], [.int .i64 10]]
noncomputable def G378_0 : List T → Bool := fun cs => mmB Pt.pr 1000000 378 10000 ⟨[.own 429 6], (429, .row cs 2 true) :: [], .int .i64 7⟩
theorem p378_0_0 : permA G378_0 5 [[.int .i64 8], [.int .i64 8], [.int .i64 9], [.int .i64 9], [.int .i64 10]] ([.int .i64 7]) = true := by kernel_rfl
theorem p378_0_1 : permA G378_0 5 [[.int .i64 7], [.int .i64 8], [.int .i64 9], [.int .i64 9], [.int .i64 10]] ([.int .i64 8]) = true := by kernel_rfl
theorem p378_0_2 : permA G378_0 5 [[.int .i64 7], [.int .i64 8], [.int .i64 9], [.int .i64 9], [.int .i64 10]] ([.int .i64 8]) = true := by kernel_rfl
theorem p378_0_3 : permA G378_0 5 [[.int .i64 7], [.int .i64 8], [.int .i64 8], [.int .i64 9], [.int .i64 10]] ([.int .i64 9]) = true := by kernel_rfl
theorem p378_0_4 : permA G378_0 5 [[.int .i64 7], [.int .i64 8], [.int .i64 8], [.int .i64 9], [.int .i64 10]] ([.int .i64 9]) = true := by kernel_rfl
theorem p378_0_5 : permA G378_0 5 [[.int .i64 7], [.int .i64 8], [.int .i64 8], [.int .i64 9], [.int .i64 9]] ([.int .i64 10]) = true := by kernel_rfl
theorem p378_0 : permA G378_0 L378_0.length L378_0 [] = true := permA_step (allP_cons (p378_0_0) (allP_cons (p378_0_1) (allP_cons (p378_0_2) (allP_cons (p378_0_3) (allP_cons (p378_0_4) (allP_cons (p378_0_5) (allP_nil)))))))
noncomputable def L379_1 : List (List T) := [[.int .i64 7], [.int .i64 8], [.int .i64 8], [.int .i64 9], [.int .i64 9], [.int .i64 10]]
noncomputable def G379_1 : List T → Bool := fun cs => mmB Pt.pr 1000000 379 10000 ⟨[.own 429 6], (429, .row cs 2 true) :: [], .int .i64 10⟩
theorem p379_1_0 : permA G379_1 5 [[.int .i64 8], [.int .i64 8], [.int .i64 9], [.int .i64 9], [.int .i64 10]] ([.int .i64 7]) = true := by kernel_rfl
theorem p379_1_1 : permA G379_1 5 [[.int .i64 7], [.int .i64 8], [.int .i64 9], [.int .i64 9], [.int .i64 10]] ([.int .i64 8]) = true := by kernel_rfl
theorem p379_1_2 : permA G379_1 5 [[.int .i64 7], [.int .i64 8], [.int .i64 9], [.int .i64 9], [.int .i64 10]] ([.int .i64 8]) = true := by kernel_rfl
theorem p379_1_3 : permA G379_1 5 [[.int .i64 7], [.int .i64 8], [.int .i64 8], [.int .i64 9], [.int .i64 10]] ([.int .i64 9]) = true := by kernel_rfl
theorem p379_1_4 : permA G379_1 5 [[.int .i64 7], [.int .i64 8], [.int .i64 8], [.int .i64 9], [.int .i64 10]] ([.int .i64 9]) = true := by kernel_rfl
theorem p379_1_5 : permA G379_1 5 [[.int .i64 7], [.int .i64 8], [.int .i64 8], [.int .i64 9], [.int .i64 9]] ([.int .i64 10]) = true := by kernel_rfl
theorem p379_1 : permA G379_1 L379_1.length L379_1 [] = true := permA_step (allP_cons (p379_1_0) (allP_cons (p379_1_1) (allP_cons (p379_1_2) (allP_cons (p379_1_3) (allP_cons (p379_1_4) (allP_cons (p379_1_5) (allP_nil)))))))
noncomputable def tab : List (Nat × Ans) := [(378, flatM (bagF 10000 [.own 429 6] 429 2 L378_0 [] (.int .i64 7))), (379, flatM (bagF 10000 [.own 429 6] 429 2 L379_1 [] (.int .i64 10)))]
noncomputable def p : Pr := withM Pt.pr (memsOf tab)
theorem ok : Ok Tryz.prog p := withM_ok Pt.ok _
theorem lb : LibOk Tryz.prog p := memsOf_lb Pt.lb tab (List.forall_mem_cons.2 ⟨flatM_ok (bagF_sound Pt.ok Pt.lb p378_0), List.forall_mem_cons.2 ⟨flatM_ok (bagF_sound Pt.ok Pt.lb p379_1), fun _ h => (List.not_mem_nil h).elim⟩⟩)
end Go.Proofs.YtmpfljfffljoeaaGreatDoor.W05M
