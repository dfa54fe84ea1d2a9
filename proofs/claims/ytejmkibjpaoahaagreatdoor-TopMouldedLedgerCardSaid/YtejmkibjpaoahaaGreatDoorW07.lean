/- Lemmas. No condition. -/
import Derived.Test.YtejmkibjpaoahaaGreatDoorRunX
import Derived.Test.YtejmkibjpaoahaaGreatDoorW07M
namespace Go.Proofs.YtejmkibjpaoahaaGreatDoor.W07
open Go Go.Proofs Go.Run Go.Eng
set_option maxRecDepth 100000
noncomputable def q0:Nat×VO:=(1,.row (il [2,3,4,5,6,7,7,7,0,0,1,1,2,3,4,4]) 3 false)
noncomputable def q1:Nat×VO:=(8,.row [.slice 1 0 8 16,.slice 1 8 8 8,ij 2,ij 5] 464 false)
noncomputable def q2:Nat×VO:=(995,.row (il [0,0,(-1),(-1),(-1),(-1),(-1),(-1)]) 3 false)
noncomputable def q3:Nat×VO:=(1323,.row (il [0,0,0,0,1,1,0,0]) 3 false)
noncomputable def q4:Nat×VO:=(5,.row (il [2,3,4,5,6,7,7,7,0,0,1,1,2,3,6,6]) 3 false)
noncomputable def q5:Nat×VO:=(9,.row [.slice 5 0 8 16,.slice 5 8 8 8,ij 4,ij 5] 464 false)
@[reducible] noncomputable def M:Fm:=⟨gV Pt.ff335.nt,Pt.ff335.nt⟩
noncomputable def LE1:List (Nat×T):=[(0,.bool false),(1,.ptr 8 0),(2,.ptr 9 0),(3,ij 4),(4,ij 2),(5,ij 0),(8,ij 22),(11,ij 8),(14,ij 2),(15,ij 2),(16,ij 0),(18,ij 22)]
noncomputable def E1:E:=EM M LE1 (.leaf .any)
noncomputable def LV1:List (Nat×VO):=[q0,q4,q1,q5]
noncomputable def S1:S:=⟨fromV LV1 (.leaf none),499,0⟩
theorem qc0:Vh W07M.p 1000000 M ((xX Pt.ff335.body).take 8) .normal LE1 [] LV1 499 0 (.leaf fB) [] s0=true:=by kernel_rfl
theorem c0:seg W07M.p 1000000 M ((xX Pt.ff335.body).take 8) (LE1.map (·.1)) (LV1.map (·.1)) (.leaf fB) [] s0=some (E1,[],S1):=zCH qc0
noncomputable def LE2:List (Nat×T):=[(0,.bool false),(1,.ptr 8 0),(2,.ptr 9 0),(3,ij 4),(4,ij 2),(5,ij 0),(8,ij 22),(11,ij 8),(14,ij 2),(15,ij 2),(16,ij 0),(18,ij 22),(19,.str [99,99,119,99,119,99]),(20,ij 0),(22,ij 4),(23,ij 1),(24,ij 0),(25,.slice 995 0 8 8),(26,ij 0),(27,.slice 1323 0 8 8),(28,ij 0)]
noncomputable def E2:E:=EM M LE2 (.leaf .any)
noncomputable def LV2:List (Nat×VO):=[q0,q4,q1,q5,q2,q3]
noncomputable def S2:S:=⟨fromV LV2 (.leaf none),1324,0⟩
theorem qc1:Vh W07M.p 1000000 M (((xX Pt.ff335.body).drop 8).take 5) .normal LE2 [] LV2 1324 0 E1 [] S1=true:=by kernel_rfl
theorem c1:seg W07M.p 1000000 M (((xX Pt.ff335.body).drop 8).take 5) (LE2.map (·.1)) (LV2.map (·.1)) E1 [] S1=some (E2,[],S2):=zCH qc1
noncomputable def LE3:List (Nat×T):=[(0,.bool false),(1,.ptr 8 0),(3,ij 4),(4,ij 2),(5,ij 0),(8,ij 22),(11,ij 8),(14,ij 2),(15,ij 2),(16,ij 0),(18,ij 22),(19,.str [99,99,119,99,119,99]),(20,ij 0),(22,ij 4),(23,ij 1),(24,ij 0),(25,.slice 995 0 8 8),(26,ij 0),(27,.slice 1323 0 8 8),(28,ij 0),(29,ij 0),(30,ij 14),(31,.ptr 1583 0),(32,ij 0),(34,ij 14),(35,.str [99,99,119,99]),(36,.str [119,99]),(37,ij 0),(40,ij 22)]
noncomputable def E3:E:=EM M LE3 (.leaf .any)
noncomputable def LV3:List (Nat×VO):=[q0,q1,q2,q3,(1583,.row [ij 1,ij 1] 473 false)]
noncomputable def S3:S:=⟨fromV LV3 (.leaf none),1806,0⟩
theorem qc2:Vh W07M.p 1000000 M ((((xX Pt.ff335.body).drop 8).drop 5).take 5) .normal LE3 [] LV3 1806 0 E2 [] S2=true:=by kernel_rfl
theorem c2:seg W07M.p 1000000 M ((((xX Pt.ff335.body).drop 8).drop 5).take 5) (LE3.map (·.1)) (LV3.map (·.1)) E2 [] S2=some (E3,[],S3):=zCH qc2
noncomputable def LE4:List (Nat×T):=[(0,.bool false),(1,.ptr 8 0),(3,ij 4),(4,ij 2),(5,ij 0),(8,ij 22),(11,ij 8),(14,ij 2),(15,ij 2),(16,ij 0),(18,ij 22),(19,.str [99,99,119,99,119,99]),(20,ij 0),(22,ij 4),(23,ij 1),(24,ij 0),(25,.slice 995 0 8 8),(26,ij 0),(27,.slice 1323 0 8 8),(28,ij 0),(29,ij 0),(30,ij 14),(31,.ptr 1583 0),(32,ij 0),(34,ij 14),(35,.str [99,99,119,99]),(36,.str [119,99]),(37,ij 0),(40,ij 22),(41,.ptr 2115 0),(42,ij 0),(43,.ptr 2116 0),(44,ij 0),(46,ij 22)]
noncomputable def E4:E:=EM M LE4 (.leaf .any)
noncomputable def LV4:List (Nat×VO):=[q0,q1,q2,q3,(1583,.row [ij 1,ij 1] 473 false),(2115,.row [ij 1,ij 1] 473 false),(2116,.row [ij 6,ij 7] 115 false)]
noncomputable def S4:S:=⟨fromV LV4 (.leaf none),2186,0⟩
theorem qc3:Vh W07M.p 1000000 M (((((xX Pt.ff335.body).drop 8).drop 5).drop 5).take 3) .normal LE4 [] LV4 2186 0 E3 [] S3=true:=by kernel_rfl
theorem c3:seg W07M.p 1000000 M (((((xX Pt.ff335.body).drop 8).drop 5).drop 5).take 3) (LE4.map (·.1)) (LV4.map (·.1)) E3 [] S3=some (E4,[],S4):=zCH qc3
theorem c4:lastB W07M.p 1000000 M Pt.ff335.res (((((xX Pt.ff335.body).drop 8).drop 5).drop 5).drop 3) E4 [] S4=true:=by kernel_rfl
theorem works335 (h:Eng.Heap):ak Tryz.prog 335 #[] h (fun v h'=>v= .bool true/\Ext h h'):=
 XB W07M.ok W07M.lb (f:=335) (fi:=Pt.ff335) (by kernel_rfl) (by decide+kernel) (.next 8 _ _ c0 (.next 5 _ _ c1 (.next 5 _ _ c2 (.next 3 _ _ c3 (.last c4))))) h
end Go.Proofs.YtejmkibjpaoahaaGreatDoor.W07
