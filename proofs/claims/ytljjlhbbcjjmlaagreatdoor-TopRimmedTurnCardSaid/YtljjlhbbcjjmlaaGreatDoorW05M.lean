/- Answers of some calls, each by runs of its own. No condition. -/
import Derived.Test.YtljjlhbbcjjmlaaGreatDoorRunM
import Derived.Test.YtljjlhbbcjjmlaaGreatDoorOk
namespace Go.Proofs.YtljjlhbbcjjmlaaGreatDoor.W05M
open Go Go.Proofs Go.Run Go.Eng
set_option maxRecDepth 100000
noncomputable def L347_0:List (List T):=[[.int .i64 7],[.int .i64 8],[.int .i64 8],[.int .i64 9],[.int .i64 9],[.int .i64 10]]
noncomputable def G347_0:List T->Bool:=fun cs=>mmB Pt.pr 1000000 347 10000 ⟨[.own 429 6],(429,.row cs 2 true)::[],.int .i64 7⟩
theorem p347_0_0:permA G347_0 5 [[.int .i64 8],[.int .i64 8],[.int .i64 9],[.int .i64 9],[.int .i64 10]] ([.int .i64 7])=true:=by kernel_rfl
theorem p347_0_1:permA G347_0 5 [[.int .i64 7],[.int .i64 8],[.int .i64 9],[.int .i64 9],[.int .i64 10]] ([.int .i64 8])=true:=by kernel_rfl
theorem p347_0_2:permA G347_0 5 [[.int .i64 7],[.int .i64 8],[.int .i64 9],[.int .i64 9],[.int .i64 10]] ([.int .i64 8])=true:=by kernel_rfl
theorem p347_0_3:permA G347_0 5 [[.int .i64 7],[.int .i64 8],[.int .i64 8],[.int .i64 9],[.int .i64 10]] ([.int .i64 9])=true:=by kernel_rfl
theorem p347_0_4:permA G347_0 5 [[.int .i64 7],[.int .i64 8],[.int .i64 8],[.int .i64 9],[.int .i64 10]] ([.int .i64 9])=true:=by kernel_rfl
theorem p347_0_5:permA G347_0 5 [[.int .i64 7],[.int .i64 8],[.int .i64 8],[.int .i64 9],[.int .i64 9]] ([.int .i64 10])=true:=by kernel_rfl
theorem p347_0:permA G347_0 L347_0.length L347_0 []=true:=YN (Zf (p347_0_0) (Zf (p347_0_1) (Zf (p347_0_2) (Zf (p347_0_3) (Zf (p347_0_4) (Zf (p347_0_5) (zAo)))))))
noncomputable def L348_1:List (List T):=[[.int .i64 7],[.int .i64 8],[.int .i64 8],[.int .i64 9],[.int .i64 9],[.int .i64 10]]
noncomputable def G348_1:List T->Bool:=fun cs=>mmB Pt.pr 1000000 348 10000 ⟨[.own 429 6],(429,.row cs 2 true)::[],.int .i64 10⟩
theorem p348_1_0:permA G348_1 5 [[.int .i64 8],[.int .i64 8],[.int .i64 9],[.int .i64 9],[.int .i64 10]] ([.int .i64 7])=true:=by kernel_rfl
theorem p348_1_1:permA G348_1 5 [[.int .i64 7],[.int .i64 8],[.int .i64 9],[.int .i64 9],[.int .i64 10]] ([.int .i64 8])=true:=by kernel_rfl
theorem p348_1_2:permA G348_1 5 [[.int .i64 7],[.int .i64 8],[.int .i64 9],[.int .i64 9],[.int .i64 10]] ([.int .i64 8])=true:=by kernel_rfl
theorem p348_1_3:permA G348_1 5 [[.int .i64 7],[.int .i64 8],[.int .i64 8],[.int .i64 9],[.int .i64 10]] ([.int .i64 9])=true:=by kernel_rfl
theorem p348_1_4:permA G348_1 5 [[.int .i64 7],[.int .i64 8],[.int .i64 8],[.int .i64 9],[.int .i64 10]] ([.int .i64 9])=true:=by kernel_rfl
theorem p348_1_5:permA G348_1 5 [[.int .i64 7],[.int .i64 8],[.int .i64 8],[.int .i64 9],[.int .i64 9]] ([.int .i64 10])=true:=by kernel_rfl
theorem p348_1:permA G348_1 L348_1.length L348_1 []=true:=YN (Zf (p348_1_0) (Zf (p348_1_1) (Zf (p348_1_2) (Zf (p348_1_3) (Zf (p348_1_4) (Zf (p348_1_5) (zAo)))))))
noncomputable def tab:List (Nat×Ans):=[(347,XR (zAl 10000 [.own 429 6] 429 2 L347_0 [] (.int .i64 7))),(348,XR (zAl 10000 [.own 429 6] 429 2 L348_1 [] (.int .i64 10)))]
noncomputable def p:Pr:=U4 Pt.pr (GN tab)
theorem ok:Ok Tryz.prog p:=zAy Pt.ok _
theorem lb:fE Tryz.prog p:=Zc Pt.lb tab (List.forall_mem_cons.2 ⟨zBG (Xx Pt.ok Pt.lb p347_0),List.forall_mem_cons.2 ⟨zBG (Xx Pt.ok Pt.lb p348_1),fun _ h=>(List.not_mem_nil h).elim⟩⟩)
end Go.Proofs.YtljjlhbbcjjmlaaGreatDoor.W05M
