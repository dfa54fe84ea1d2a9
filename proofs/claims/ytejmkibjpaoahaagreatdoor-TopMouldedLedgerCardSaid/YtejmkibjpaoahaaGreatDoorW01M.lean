/- Lemmas. No condition. -/
import Derived.Test.YtejmkibjpaoahaaGreatDoorOk
import Derived.Test.YtejmkibjpaoahaaGreatDoorRunM
open List renaming forall_mem_cons→af,not_mem_nil→bK
namespace Go.Proofs.YtejmkibjpaoahaaGreatDoor.W01M
open Go Go.Proofs Go.Run Go.Eng
set_option maxRecDepth 100000
noncomputable def q0:Nat×VO:=(4,.row (il [90,0,0,0,0,20,1000,1000,0,0,120,0,0,1000,1000,50,180,220,10,20]) 723 false)
noncomputable def L811_0:List (List T):=[[ij 1,ij 20,ij 0,ij 0],[ij 220,ij 19800,ij 40,ij 0],[ij 780,ij 45600,ij 30,ij 0],[ij 1000,ij 20000,ij 0,ij 100],[ij 220000,ij 19800000,ij 40300,ij 6600],[ij 770000,ij 44400000,ij 29000,ij 48000]]
noncomputable def G811_0:List T->Bool:=fun cs=>mmB Pt.pr 1000000 811 10000 ⟨[.own 1318 6,.func (.func 812) [] [.ptr 1312 0]],(1318,.row cs 684 true)::[(1312,.row [.map 1313] 781 false),(1313,.map [(.agg [ij 220000,ij 19800000,ij 40300,ij 6600],ij 2,2),(.agg [ij 770000,ij 44400000,ij 29000,ij 48000],ij 3,3),(.agg [ij 1000,ij 20000,ij 0,ij 100],ij 5,5),(.agg [ij 220,ij 19800,ij 40,ij 0],ij 11,11),(.agg [ij 780,ij 45600,ij 30,ij 0],ij 12,12),(.agg [ij 1,ij 20,ij 0,ij 0],ij 15,15)] 18)],.agg [ij 220000,ij 19800000,ij 40300,ij 6600]⟩
theorem p811_0_0:permA G811_0 5 [[ij 220,ij 19800,ij 40,ij 0],[ij 780,ij 45600,ij 30,ij 0],[ij 1000,ij 20000,ij 0,ij 100],[ij 220000,ij 19800000,ij 40300,ij 6600],[ij 770000,ij 44400000,ij 29000,ij 48000]] ([ij 1,ij 20,ij 0,ij 0])=true:=by kernel_rfl
theorem p811_0_1:permA G811_0 5 [[ij 1,ij 20,ij 0,ij 0],[ij 780,ij 45600,ij 30,ij 0],[ij 1000,ij 20000,ij 0,ij 100],[ij 220000,ij 19800000,ij 40300,ij 6600],[ij 770000,ij 44400000,ij 29000,ij 48000]] ([ij 220,ij 19800,ij 40,ij 0])=true:=by kernel_rfl
theorem p811_0_2:permA G811_0 5 [[ij 1,ij 20,ij 0,ij 0],[ij 220,ij 19800,ij 40,ij 0],[ij 1000,ij 20000,ij 0,ij 100],[ij 220000,ij 19800000,ij 40300,ij 6600],[ij 770000,ij 44400000,ij 29000,ij 48000]] ([ij 780,ij 45600,ij 30,ij 0])=true:=by kernel_rfl
theorem p811_0_3:permA G811_0 5 [[ij 1,ij 20,ij 0,ij 0],[ij 220,ij 19800,ij 40,ij 0],[ij 780,ij 45600,ij 30,ij 0],[ij 220000,ij 19800000,ij 40300,ij 6600],[ij 770000,ij 44400000,ij 29000,ij 48000]] ([ij 1000,ij 20000,ij 0,ij 100])=true:=by kernel_rfl
theorem p811_0_4:permA G811_0 5 [[ij 1,ij 20,ij 0,ij 0],[ij 220,ij 19800,ij 40,ij 0],[ij 780,ij 45600,ij 30,ij 0],[ij 1000,ij 20000,ij 0,ij 100],[ij 770000,ij 44400000,ij 29000,ij 48000]] ([ij 220000,ij 19800000,ij 40300,ij 6600])=true:=by kernel_rfl
theorem p811_0_5:permA G811_0 5 [[ij 1,ij 20,ij 0,ij 0],[ij 220,ij 19800,ij 40,ij 0],[ij 780,ij 45600,ij 30,ij 0],[ij 1000,ij 20000,ij 0,ij 100],[ij 220000,ij 19800000,ij 40300,ij 6600]] ([ij 770000,ij 44400000,ij 29000,ij 48000])=true:=by kernel_rfl
theorem p811_0:permA G811_0 L811_0.length L811_0 []=true:=YN (Zf (p811_0_0) (Zf (p811_0_1) (Zf (p811_0_2) (Zf (p811_0_3) (Zf (p811_0_4) (Zf (p811_0_5) (zAo)))))))
noncomputable def x701_0:Mr:=⟨[.slice 4 0 4 4,.agg [ij 100,ij 10],.bool true],[q0],.tup [.ptr 10059 0,.slice 10269 0 4 4,ij 0],[(10059,.row [.slice 4 0 4 4,ij 100,ij 10,.own 10075 4] 773 false),(10269,.row [ij 118800,ij 0,ij 1200,ij 100000] 2 false),(10075,.row (il [1,0,0,1,(-1000),0,1,0,1000,1,(-220),10]) 775 true)]⟩
theorem e701_0:mrB Pt.pr 1000000 701 10000 x701_0=true:=by kernel_rfl
noncomputable def M701:List Mr:=[x701_0]
theorem e701:∀x∈M701,mrB Pt.pr 1000000 701 10000 x=true:=af.2 ⟨e701_0,fun _ h=>(bK h).elim⟩
noncomputable def x705_0:Mr:=⟨[.ptr 1301 0],[(1301,.row [.slice 4 0 4 4,ij 100,ij 10,.own 1303 4] 773 false),(1303,.row (il [1,0,0,1,(-1000),0,1,0,1000,1,(-220),10]) 775 true),q0],.func (.func 810) [] [.ptr 10437 0],[(10437,.row [.map 10016] 781 false),(10016,.map [(.agg [ij 220000,ij 19800000,ij 40300,ij 6600],ij 2,2),(.agg [ij 770000,ij 44400000,ij 29000,ij 48000],ij 3,3),(.agg [ij 1000,ij 20000,ij 0,ij 100],ij 5,5),(.agg [ij 220,ij 19800,ij 40,ij 0],ij 11,11),(.agg [ij 780,ij 45600,ij 30,ij 0],ij 12,12),(.agg [ij 1,ij 20,ij 0,ij 0],ij 15,15)] 18)]⟩
theorem e705_0:mrB Pt.pr 1000000 705 10000 x705_0=true:=by kernel_rfl
noncomputable def M705:List Mr:=[x705_0]
theorem e705:∀x∈M705,mrB Pt.pr 1000000 705 10000 x=true:=af.2 ⟨e705_0,fun _ h=>(bK h).elim⟩
noncomputable def tab:List (Nat×Ans):=[(811,XR (zAl 10000 [.own 1318 6,.func (.func 812) [] [.ptr 1312 0]] 1318 684 L811_0 [(1312,.row [.map 1313] 781 false),(1313,.map [(.agg [ij 220000,ij 19800000,ij 40300,ij 6600],ij 2,2),(.agg [ij 770000,ij 44400000,ij 29000,ij 48000],ij 3,3),(.agg [ij 1000,ij 20000,ij 0,ij 100],ij 5,5),(.agg [ij 220,ij 19800,ij 40,ij 0],ij 11,11),(.agg [ij 780,ij 45600,ij 30,ij 0],ij 12,12),(.agg [ij 1,ij 20,ij 0,ij 0],ij 15,15)] 18)] (.agg [ij 220000,ij 19800000,ij 40300,ij 6600]))),(701,V7 10000 M701),(705,V7 10000 M705)]
noncomputable def p:Pr:=U4 Pt.pr (GN tab)
theorem ok:Ok Tryz.prog p:=zAy Pt.ok _
theorem lb:fE Tryz.prog p:=Zc Pt.lb tab (af.2 ⟨zBG (Xx Pt.ok Pt.lb p811_0),af.2 ⟨YM Pt.ok Pt.lb _ e701,af.2 ⟨YM Pt.ok Pt.lb _ e705,fun _ h=>(bK h).elim⟩⟩⟩)
end Go.Proofs.YtejmkibjpaoahaaGreatDoor.W01M
