/- Lemmas. No condition. -/
import Derived.Test.YtejmkibjpaoahaaGreatDoorOk
import Derived.Test.YtejmkibjpaoahaaGreatDoorRunM
namespace Go.Proofs.YtejmkibjpaoahaaGreatDoor.W05M
open Go Go.Proofs Go.Run Go.Eng
set_option maxRecDepth 100000
noncomputable def L595_0:List (List T):=[[ij 7],[ij 8],[ij 8],[ij 9],[ij 9],[ij 10]]
noncomputable def G595_0:List T->Bool:=fun cs=>mmB Pt.pr 1000000 595 10000 ⟨[.own 429 6],(429,.row cs 2 true)::[],ij 7⟩
theorem p595_0_0:permA G595_0 5 [[ij 8],[ij 8],[ij 9],[ij 9],[ij 10]] ([ij 7])=true:=by kernel_rfl
theorem p595_0_1:permA G595_0 5 [[ij 7],[ij 8],[ij 9],[ij 9],[ij 10]] ([ij 8])=true:=by kernel_rfl
theorem p595_0_2:permA G595_0 5 [[ij 7],[ij 8],[ij 9],[ij 9],[ij 10]] ([ij 8])=true:=by kernel_rfl
theorem p595_0_3:permA G595_0 5 [[ij 7],[ij 8],[ij 8],[ij 9],[ij 10]] ([ij 9])=true:=by kernel_rfl
theorem p595_0_4:permA G595_0 5 [[ij 7],[ij 8],[ij 8],[ij 9],[ij 10]] ([ij 9])=true:=by kernel_rfl
theorem p595_0_5:permA G595_0 5 [[ij 7],[ij 8],[ij 8],[ij 9],[ij 9]] ([ij 10])=true:=by kernel_rfl
theorem p595_0:permA G595_0 L595_0.length L595_0 []=true:=YN (Zf (p595_0_0) (Zf (p595_0_1) (Zf (p595_0_2) (Zf (p595_0_3) (Zf (p595_0_4) (Zf (p595_0_5) (zAo)))))))
noncomputable def L596_1:List (List T):=[[ij 7],[ij 8],[ij 8],[ij 9],[ij 9],[ij 10]]
noncomputable def G596_1:List T->Bool:=fun cs=>mmB Pt.pr 1000000 596 10000 ⟨[.own 429 6],(429,.row cs 2 true)::[],ij 10⟩
theorem p596_1_0:permA G596_1 5 [[ij 8],[ij 8],[ij 9],[ij 9],[ij 10]] ([ij 7])=true:=by kernel_rfl
theorem p596_1_1:permA G596_1 5 [[ij 7],[ij 8],[ij 9],[ij 9],[ij 10]] ([ij 8])=true:=by kernel_rfl
theorem p596_1_2:permA G596_1 5 [[ij 7],[ij 8],[ij 9],[ij 9],[ij 10]] ([ij 8])=true:=by kernel_rfl
theorem p596_1_3:permA G596_1 5 [[ij 7],[ij 8],[ij 8],[ij 9],[ij 10]] ([ij 9])=true:=by kernel_rfl
theorem p596_1_4:permA G596_1 5 [[ij 7],[ij 8],[ij 8],[ij 9],[ij 10]] ([ij 9])=true:=by kernel_rfl
theorem p596_1_5:permA G596_1 5 [[ij 7],[ij 8],[ij 8],[ij 9],[ij 9]] ([ij 10])=true:=by kernel_rfl
theorem p596_1:permA G596_1 L596_1.length L596_1 []=true:=YN (Zf (p596_1_0) (Zf (p596_1_1) (Zf (p596_1_2) (Zf (p596_1_3) (Zf (p596_1_4) (Zf (p596_1_5) (zAo)))))))
noncomputable def tab:List (Nat×Ans):=[(595,XR (zAl 10000 [.own 429 6] 429 2 L595_0 [] (ij 7))),(596,XR (zAl 10000 [.own 429 6] 429 2 L596_1 [] (ij 10)))]
noncomputable def p:Pr:=U4 Pt.pr (GN tab)
theorem ok:Ok Tryz.prog p:=zAy Pt.ok _
theorem lb:fE Tryz.prog p:=Zc Pt.lb tab (List.forall_mem_cons.2 ⟨zBG (Xx Pt.ok Pt.lb p595_0),List.forall_mem_cons.2 ⟨zBG (Xx Pt.ok Pt.lb p596_1),fun _ h=>(List.not_mem_nil h).elim⟩⟩)
end Go.Proofs.YtejmkibjpaoahaaGreatDoor.W05M
