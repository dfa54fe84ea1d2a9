/- Lemmas. No condition. -/
import Derived.Test.YtejmkibjpaoahaaGreatDoorRunX
import Derived.Test.YtejmkibjpaoahaaGreatDoorW05M
namespace Go.Proofs.YtejmkibjpaoahaaGreatDoor.W05
open Go Go.Proofs Go.Run Go.Eng
set_option maxRecDepth 100000
noncomputable def q0:Nat×VO:=(7,.row (il [0,1,2,4,0,0]) 115 false)
noncomputable def q1:Nat×VO:=(9,.row [ij 5,ij 4,.slice 7 0 3 3] 579 false)
noncomputable def q2:Nat×VO:=(26,.row [ij 4,ij 1,ij 4] 2 false)
noncomputable def q3:Nat×VO:=(43,.row [ij 4,ij 0,ij 2] 2 false)
noncomputable def q4:Nat×VO:=(169,.row [ij 0,ij 2] 597 true)
noncomputable def q5:Nat×VO:=(189,.row [ij 0,ij 0,ij 2,ij 2] 597 true)
noncomputable def q6:Nat×VO:=(430,.row [ij 7,ij 10] 115 false)
@[reducible] noncomputable def M:Fm:=⟨gV Pt.ff444.nt,Pt.ff444.nt⟩
noncomputable def LE1:List (Nat×T):=[(0,.bool false),(2,.ptr 9 0),(3,.slice 26 0 3 3),(4,ij 0),(5,.slice 43 0 3 3),(6,ij 0),(8,ij 3),(9,ij 5),(10,ij 0),(11,ij 2),(12,ij 0),(13,ij 1),(14,ij 0),(16,ij 5),(18,ij 2),(19,.own 169 1),(20,ij 0),(21,.own 189 2),(22,ij 0),(23,ij (-1)),(24,ij 1),(25,ij 0),(26,ij (-3)),(27,ij 0),(29,ij 2),(30,ij 1),(31,ij 0),(33,ij 2),(34,ij 1),(35,ij 3),(36,ij 0),(37,.ptr 430 0),(38,ij 0)]
noncomputable def E1:E:=EM M LE1 (.leaf .any)
noncomputable def LV1:List (Nat×VO):=[q0,q1,q2,q3,q4,q5,q6]
noncomputable def S1:S:=⟨fromV LV1 (.leaf none),431,0⟩
theorem qc0:Vh W05M.p 1000000 M ((xX Pt.ff444.body).take 19) .normal LE1 [] LV1 431 0 (.leaf fB) [] s0=true:=by kernel_rfl
theorem c0:seg W05M.p 1000000 M ((xX Pt.ff444.body).take 19) (LE1.map (·.1)) (LV1.map (·.1)) (.leaf fB) [] s0=some (E1,[],S1):=zCH qc0
noncomputable def LE2:List (Nat×T):=[(0,.bool false),(2,.ptr 9 0),(3,.slice 26 0 3 3),(4,ij 0),(5,.slice 43 0 3 3),(6,ij 0),(8,ij 3),(9,ij 5),(10,ij 0),(11,ij 2),(12,ij 0),(13,ij 1),(14,ij 0),(16,ij 5),(18,ij 2),(19,.own 169 1),(20,ij 0),(21,.own 189 2),(22,ij 0),(23,ij (-1)),(24,ij 1),(25,ij 0),(26,ij (-3)),(27,ij 0),(29,ij 2),(30,ij 1),(31,ij 0),(33,ij 2),(34,ij 1),(35,ij 3),(36,ij 0),(37,.ptr 430 0),(38,ij 0),(39,ij 2),(40,ij 0)]
noncomputable def E2:E:=EM M LE2 (.leaf .any)
noncomputable def LV2:List (Nat×VO):=[q0,q1,q2,q3,q4,q5,q6]
noncomputable def S2:S:=⟨fromV LV2 (.leaf none),515,0⟩
theorem qc1:Vh W05M.p 1000000 M (((xX Pt.ff444.body).drop 19).take 1) .normal LE2 [] LV2 515 0 E1 [] S1=true:=by kernel_rfl
theorem c1:seg W05M.p 1000000 M (((xX Pt.ff444.body).drop 19).take 1) (LE2.map (·.1)) (LV2.map (·.1)) E1 [] S1=some (E2,[],S2):=zCH qc1
noncomputable def LE3:List (Nat×T):=[(0,.bool false),(2,.ptr 9 0),(3,.slice 26 0 3 3),(4,ij 0),(5,.slice 43 0 3 3),(6,ij 0),(8,ij 3),(9,ij 5),(10,ij 0),(11,ij 2),(12,ij 0),(13,ij 1),(14,ij 0),(16,ij 5),(18,ij 2),(19,.own 169 1),(20,ij 0),(21,.own 189 2),(22,ij 0),(23,ij (-1)),(24,ij 1),(25,ij 0),(26,ij (-3)),(27,ij 0),(29,ij 2),(30,ij 1),(31,ij 0),(33,ij 2),(34,ij 1),(35,ij 3),(36,ij 0),(37,.ptr 430 0),(38,ij 0),(39,ij 2),(40,ij 0),(41,ij 1),(42,ij 0)]
noncomputable def E3:E:=EM M LE3 (.leaf .any)
noncomputable def LV3:List (Nat×VO):=[q0,q1,q2,q3,q4,q5,q6]
noncomputable def S3:S:=⟨fromV LV3 (.leaf none),599,0⟩
theorem qc2:Vh W05M.p 1000000 M ((((xX Pt.ff444.body).drop 19).drop 1).take 1) .normal LE3 [] LV3 599 0 E2 [] S2=true:=by kernel_rfl
theorem c2:seg W05M.p 1000000 M ((((xX Pt.ff444.body).drop 19).drop 1).take 1) (LE3.map (·.1)) (LV3.map (·.1)) E2 [] S2=some (E3,[],S3):=zCH qc2
theorem c3:lastB W05M.p 1000000 M Pt.ff444.res ((((xX Pt.ff444.body).drop 19).drop 1).drop 1) E3 [] S3=true:=by kernel_rfl
theorem works444 (h:Eng.Heap):ak Tryz.prog 444 #[] h (fun v h'=>v= .bool true/\Ext h h'):=
 XB W05M.ok W05M.lb (f:=444) (fi:=Pt.ff444) (by kernel_rfl) (by decide+kernel) (.next 19 _ _ c0 (.next 1 _ _ c1 (.next 1 _ _ c2 (.last c3)))) h
end Go.Proofs.YtejmkibjpaoahaaGreatDoor.W05
