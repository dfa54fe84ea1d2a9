/- Lemmas. No condition. -/
import Derived.Test.YtejmkibjpaoahaaGreatDoorOk
import Derived.Test.YtejmkibjpaoahaaGreatDoorRunX
namespace Go.Proofs.YtejmkibjpaoahaaGreatDoor.W03
open Go Go.Proofs Go.Run Go.Eng
set_option maxRecDepth 100000
noncomputable def q0:Nat×VO:=(1,.row [ij 3,ij (-1),ij (-2),ij 4] 2 false)
noncomputable def q1:Nat×VO:=(7,.row [.slice 1 0 2 4,.slice 1 2 2 2] 48 true)
noncomputable def q2:Nat×VO:=(9,.row [ij 1,ij 2,ij 0,ij 3] 2 false)
noncomputable def q3:Nat×VO:=(15,.row [.slice 9 0 2 4,.slice 9 2 2 2] 48 true)
noncomputable def q4:Nat×VO:=(26,.row [.own 7 2] 698 false)
noncomputable def q5:Nat×VO:=(27,.row [.own 15 2] 698 false)
noncomputable def q6:Nat×VO:=(30,.row [ij 1,ij 1] 473 false)
noncomputable def q7:Nat×VO:=(142,.row [ij 4,ij 1] 473 false)
noncomputable def q8:Nat×VO:=(472,.row [ij 1,ij 1] 473 false)
noncomputable def q9:Nat×VO:=(1911,.row [ij 0,ij 1] 473 false)
noncomputable def q10:Nat×VO:=(2191,.row [ij 6,ij 4] 2 false)
noncomputable def q11:Nat×VO:=(2369,.row [ij 5,ij 5] 2 false)
noncomputable def q12:Nat×VO:=(2473,.row [ij 1,ij 1] 473 false)
@[reducible] noncomputable def M:Fm:=⟨gV Pt.ff568.nt,Pt.ff568.nt⟩
noncomputable def LE1:List (Nat×T):=[(0,.bool false),(1,.ptr 26 0),(2,.ptr 27 0),(3,.ptr 28 0),(4,.ptr 30 0),(5,ij 0),(7,ij 2),(9,ij 15),(10,.ptr 142 0),(11,ij 0),(12,.ptr 472 0),(13,ij 0)]
noncomputable def E1:E:=EM M LE1 (.leaf .any)
noncomputable def LV1:List (Nat×VO):=[q0,q1,q2,q3,(17,.row (il [0,1,(-1),(-1),0,1,1,(-1),0]) 2 false),(25,.row [.slice 17 0 3 9,.slice 17 3 3 6,.slice 17 6 3 3] 48 true),q4,q5,(28,.row [.own 25 3] 698 false),q6,q7,q8]
noncomputable def S1:S:=⟨fromV LV1 (.leaf none),473,0⟩
theorem qc0:Vh Pt.pr 1000000 M ((xX Pt.ff568.body).take 7) .normal LE1 [] LV1 473 0 (.leaf fB) [] s0=true:=by kernel_rfl
theorem c0:seg Pt.pr 1000000 M ((xX Pt.ff568.body).take 7) (LE1.map (·.1)) (LV1.map (·.1)) (.leaf fB) [] s0=some (E1,[],S1):=zCH qc0
noncomputable def LE2:List (Nat×T):=[(0,.bool false),(1,.ptr 26 0),(2,.ptr 27 0),(4,.ptr 30 0),(5,ij 0),(7,ij 2),(9,ij 15),(10,.ptr 142 0),(11,ij 0),(12,.ptr 472 0),(13,ij 0),(14,.ptr 1911 0),(15,ij 0)]
noncomputable def E2:E:=EM M LE2 (.leaf .any)
noncomputable def LV2:List (Nat×VO):=[q0,q1,q2,q3,q4,q5,q6,q7,q8,q9]
noncomputable def S2:S:=⟨fromV LV2 (.leaf none),1912,0⟩
theorem qc1:Vh Pt.pr 1000000 M (((xX Pt.ff568.body).drop 7).take 1) .normal LE2 [] LV2 1912 0 E1 [] S1=true:=by kernel_rfl
theorem c1:seg Pt.pr 1000000 M (((xX Pt.ff568.body).drop 7).take 1) (LE2.map (·.1)) (LV2.map (·.1)) E1 [] S1=some (E2,[],S2):=zCH qc1
noncomputable def LE3:List (Nat×T):=[(0,.bool false),(1,.ptr 26 0),(2,.ptr 27 0),(4,.ptr 30 0),(5,ij 0),(7,ij 2),(9,ij 15),(10,.ptr 142 0),(11,ij 0),(12,.ptr 472 0),(13,ij 0),(14,.ptr 1911 0),(15,ij 0),(16,.slice 2191 0 2 2),(17,ij 0)]
noncomputable def E3:E:=EM M LE3 (.leaf .any)
noncomputable def LV3:List (Nat×VO):=[q0,q1,q2,q3,q4,q5,q6,q7,q8,q9,q10]
noncomputable def S3:S:=⟨fromV LV3 (.leaf none),2192,0⟩
theorem qc2:Vh Pt.pr 1000000 M ((((xX Pt.ff568.body).drop 7).drop 1).take 1) .normal LE3 [] LV3 2192 0 E2 [] S2=true:=by kernel_rfl
theorem c2:seg Pt.pr 1000000 M ((((xX Pt.ff568.body).drop 7).drop 1).take 1) (LE3.map (·.1)) (LV3.map (·.1)) E2 [] S2=some (E3,[],S3):=zCH qc2
noncomputable def LE4:List (Nat×T):=[(0,.bool false),(1,.ptr 26 0),(2,.ptr 27 0),(4,.ptr 30 0),(5,ij 0),(7,ij 2),(9,ij 15),(10,.ptr 142 0),(11,ij 0),(12,.ptr 472 0),(13,ij 0),(14,.ptr 1911 0),(15,ij 0),(16,.slice 2191 0 2 2),(17,ij 0),(18,.slice 2369 0 2 2),(19,ij 0),(20,.ptr 2473 0),(21,ij 0)]
noncomputable def E4:E:=EM M LE4 (.leaf .any)
noncomputable def LV4:List (Nat×VO):=[q0,q1,q2,q3,q4,q5,q6,q7,q8,q9,q10,q11,q12]
noncomputable def S4:S:=⟨fromV LV4 (.leaf none),2560,0⟩
theorem qc3:Vh Pt.pr 1000000 M (((((xX Pt.ff568.body).drop 7).drop 1).drop 1).take 2) .normal LE4 [] LV4 2560 0 E3 [] S3=true:=by kernel_rfl
theorem c3:seg Pt.pr 1000000 M (((((xX Pt.ff568.body).drop 7).drop 1).drop 1).take 2) (LE4.map (·.1)) (LV4.map (·.1)) E3 [] S3=some (E4,[],S4):=zCH qc3
noncomputable def LE5:List (Nat×T):=[(0,.bool false),(1,.ptr 26 0),(2,.ptr 27 0),(4,.ptr 30 0),(5,ij 0),(7,ij 2),(9,ij 15),(10,.ptr 142 0),(11,ij 0),(12,.ptr 472 0),(13,ij 0),(14,.ptr 1911 0),(15,ij 0),(16,.slice 2191 0 2 2),(17,ij 0),(18,.slice 2369 0 2 2),(19,ij 0),(20,.ptr 2473 0),(21,ij 0),(23,ij 14),(26,ij 19),(27,ij 0),(28,ij 0),(29,ij 0),(30,.own 2789 2),(31,ij 0),(32,.own 2868 1),(33,ij 0)]
noncomputable def E5:E:=EM M LE5 (.leaf .any)
noncomputable def LV5:List (Nat×VO):=[q0,q1,q2,q3,q4,q5,q6,q7,q8,q9,q10,q11,q12,(2789,.row [ij 0,ij 1] 3 true),(2868,.row [ij 0] 3 true)]
noncomputable def S5:S:=⟨fromV LV5 (.leaf none),2869,0⟩
theorem qc4:Vh Pt.pr 1000000 M ((((((xX Pt.ff568.body).drop 7).drop 1).drop 1).drop 2).take 5) .normal LE5 [] LV5 2869 0 E4 [] S4=true:=by kernel_rfl
theorem c4:seg Pt.pr 1000000 M ((((((xX Pt.ff568.body).drop 7).drop 1).drop 1).drop 2).take 5) (LE5.map (·.1)) (LV5.map (·.1)) E4 [] S4=some (E5,[],S5):=zCH qc4
noncomputable def LE6:List (Nat×T):=[(0,.bool false),(1,.ptr 26 0),(2,.ptr 27 0),(4,.ptr 30 0),(5,ij 0),(7,ij 2),(9,ij 15),(10,.ptr 142 0),(11,ij 0),(12,.ptr 472 0),(13,ij 0),(14,.ptr 1911 0),(15,ij 0),(16,.slice 2191 0 2 2),(17,ij 0),(18,.slice 2369 0 2 2),(19,ij 0),(20,.ptr 2473 0),(21,ij 0),(23,ij 14),(26,ij 19),(27,ij 0),(28,ij 0),(29,ij 0),(30,.own 2789 2),(31,ij 0),(32,.own 2868 1),(33,ij 0),(34,.own 3062 1),(35,.own 3234 1),(36,ij 0)]
noncomputable def E6:E:=EM M LE6 (.leaf .any)
noncomputable def LV6:List (Nat×VO):=[q0,q1,q2,q3,q4,q5,q6,q7,q8,q9,q10,q11,q12,(2789,.row [ij 0,ij 1] 3 true),(2868,.row [ij 0] 3 true),(3062,.row [ij 0] 3 true),(3234,.row [ij 0] 3 true)]
noncomputable def S6:S:=⟨fromV LV6 (.leaf none),3235,0⟩
theorem qc5:Vh Pt.pr 1000000 M (((((((xX Pt.ff568.body).drop 7).drop 1).drop 1).drop 2).drop 5).take 1) .normal LE6 [] LV6 3235 0 E5 [] S5=true:=by kernel_rfl
theorem c5:seg Pt.pr 1000000 M (((((((xX Pt.ff568.body).drop 7).drop 1).drop 1).drop 2).drop 5).take 1) (LE6.map (·.1)) (LV6.map (·.1)) E5 [] S5=some (E6,[],S6):=zCH qc5
theorem c6:lastB Pt.pr 1000000 M Pt.ff568.res (((((((xX Pt.ff568.body).drop 7).drop 1).drop 1).drop 2).drop 5).drop 1) E6 [] S6=true:=by kernel_rfl
theorem works568 (h:Eng.Heap):ak Tryz.prog 568 #[] h (fun v h'=>v= .bool true/\Ext h h'):=
 XB Pt.ok Pt.lb (f:=568) (fi:=Pt.ff568) (by kernel_rfl) (by decide+kernel) (.next 7 _ _ c0 (.next 1 _ _ c1 (.next 1 _ _ c2 (.next 2 _ _ c3 (.next 5 _ _ c4 (.next 1 _ _ c5 (.last c6))))))) h
end Go.Proofs.YtejmkibjpaoahaaGreatDoor.W03
