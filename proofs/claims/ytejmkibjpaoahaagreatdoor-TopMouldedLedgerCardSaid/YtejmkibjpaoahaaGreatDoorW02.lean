/- Lemmas. No condition. -/
import Derived.Test.YtejmkibjpaoahaaGreatDoorOk
import Derived.Test.YtejmkibjpaoahaaGreatDoorRunX
namespace Go.Proofs.YtejmkibjpaoahaaGreatDoor.W02
open Go Go.Proofs Go.Run Go.Eng
set_option maxRecDepth 100000
noncomputable def q0:Nat×VO:=(13,.row (il [0,0,0,1,1,0,1,1,2,1]) 42 true)
noncomputable def q1:Nat×VO:=(26,.row [ij 3,ij 3,.own 13 5] 24 false)
noncomputable def q2:Nat×VO:=(28,.row (il [0,1,1,0,2]) 3 false)
noncomputable def q3:Nat×VO:=(86,.row [ij 2,ij 2,ij 1] 3 false)
noncomputable def q4:Nat×VO:=(87,.row [ij 2,ij 3,ij 0] 3 false)
noncomputable def q5:Nat×VO:=(25,.row (il [0,0,1,0,2,1,2,1]) 42 true)
noncomputable def q6:Nat×VO:=(27,.row [ij 3,ij 2,.own 25 4] 24 false)
noncomputable def q7:Nat×VO:=(407,.row (il [0,1,1,0,2]) 3 false)
noncomputable def q8:Nat×VO:=(499,.row [ij 0,ij 1,ij 0,ij 1] 3 false)
noncomputable def q9:Nat×VO:=(695,.row [ij 1,ij 4] 3 true)
noncomputable def q10:Nat×VO:=(962,.row (il [0,2,1,0,1]) 3 true)
@[reducible] noncomputable def M:Fm:=⟨gV Pt.ff567.nt,Pt.ff567.nt⟩
noncomputable def LE1:List (Nat×T):=[(0,.bool false),(1,.ptr 26 0),(2,.ptr 27 0),(3,.slice 28 0 5 5),(4,.slice 86 0 3 3),(5,.slice 87 0 3 3),(6,ij 0),(7,ij 3),(8,ij 0),(10,ij 18),(12,ij 15),(13,ij 3),(14,ij 0)]
noncomputable def E1:E:=EM M LE1 (.leaf .any)
noncomputable def LV1:List (Nat×VO):=[q0,q5,q1,q6,q2,q3,q4]
noncomputable def S1:S:=⟨fromV LV1 (.leaf none),361,0⟩
theorem qc0:Vh Pt.pr 1000000 M ((xX Pt.ff567.body).take 8) .normal LE1 [] LV1 361 0 (.leaf fB) [] s0=true:=by kernel_rfl
theorem c0:seg Pt.pr 1000000 M ((xX Pt.ff567.body).take 8) (LE1.map (·.1)) (LV1.map (·.1)) (.leaf fB) [] s0=some (E1,[],S1):=zCH qc0
noncomputable def LE2:List (Nat×T):=[(0,.bool false),(1,.ptr 26 0),(2,.ptr 27 0),(3,.slice 28 0 5 5),(4,.slice 86 0 3 3),(5,.slice 87 0 3 3),(6,ij 0),(7,ij 3),(8,ij 0),(10,ij 18),(12,ij 15),(13,ij 3),(14,ij 0),(15,.slice 407 0 5 5),(16,ij 0),(17,.slice 499 0 4 4),(18,ij 0)]
noncomputable def E2:E:=EM M LE2 (.leaf .any)
noncomputable def LV2:List (Nat×VO):=[q0,q5,q1,q6,q2,q3,q4,q7,q8]
noncomputable def S2:S:=⟨fromV LV2 (.leaf none),539,0⟩
theorem qc1:Vh Pt.pr 1000000 M (((xX Pt.ff567.body).drop 8).take 2) .normal LE2 [] LV2 539 0 E1 [] S1=true:=by kernel_rfl
theorem c1:seg Pt.pr 1000000 M (((xX Pt.ff567.body).drop 8).take 2) (LE2.map (·.1)) (LV2.map (·.1)) E1 [] S1=some (E2,[],S2):=zCH qc1
noncomputable def LE3:List (Nat×T):=[(0,.bool false),(1,.ptr 26 0),(2,.ptr 27 0),(3,.slice 28 0 5 5),(4,.slice 86 0 3 3),(5,.slice 87 0 3 3),(6,ij 0),(7,ij 3),(8,ij 0),(10,ij 18),(12,ij 15),(13,ij 3),(14,ij 0),(15,.slice 407 0 5 5),(16,ij 0),(17,.slice 499 0 4 4),(18,ij 0),(19,.own 695 2),(20,ij 0),(22,ij 2)]
noncomputable def E3:E:=EM M LE3 (.leaf .any)
noncomputable def LV3:List (Nat×VO):=[q0,q5,q1,q6,q2,q3,q4,q7,q8,q9]
noncomputable def S3:S:=⟨fromV LV3 (.leaf none),800,0⟩
theorem qc2:Vh Pt.pr 1000000 M ((((xX Pt.ff567.body).drop 8).drop 2).take 2) .normal LE3 [] LV3 800 0 E2 [] S2=true:=by kernel_rfl
theorem c2:seg Pt.pr 1000000 M ((((xX Pt.ff567.body).drop 8).drop 2).take 2) (LE3.map (·.1)) (LV3.map (·.1)) E2 [] S2=some (E3,[],S3):=zCH qc2
noncomputable def LE4:List (Nat×T):=[(0,.bool false),(1,.ptr 26 0),(2,.ptr 27 0),(3,.slice 28 0 5 5),(4,.slice 86 0 3 3),(5,.slice 87 0 3 3),(6,ij 0),(7,ij 3),(8,ij 0),(10,ij 18),(12,ij 15),(13,ij 3),(14,ij 0),(15,.slice 407 0 5 5),(16,ij 0),(17,.slice 499 0 4 4),(18,ij 0),(19,.own 695 2),(20,ij 0),(22,ij 2),(23,.own 962 5),(24,ij 0)]
noncomputable def E4:E:=EM M LE4 (.leaf .any)
noncomputable def LV4:List (Nat×VO):=[q0,q5,q1,q6,q2,q3,q4,q7,q8,q9,q10]
noncomputable def S4:S:=⟨fromV LV4 (.leaf none),963,0⟩
theorem qc3:Vh Pt.pr 1000000 M (((((xX Pt.ff567.body).drop 8).drop 2).drop 2).take 1) .normal LE4 [] LV4 963 0 E3 [] S3=true:=by kernel_rfl
theorem c3:seg Pt.pr 1000000 M (((((xX Pt.ff567.body).drop 8).drop 2).drop 2).take 1) (LE4.map (·.1)) (LV4.map (·.1)) E3 [] S3=some (E4,[],S4):=zCH qc3
noncomputable def LE5:List (Nat×T):=[(0,.bool false),(1,.ptr 26 0),(2,.ptr 27 0),(3,.slice 28 0 5 5),(4,.slice 86 0 3 3),(5,.slice 87 0 3 3),(6,ij 0),(7,ij 3),(8,ij 0),(10,ij 18),(12,ij 15),(13,ij 3),(14,ij 0),(15,.slice 407 0 5 5),(16,ij 0),(17,.slice 499 0 4 4),(18,ij 0),(19,.own 695 2),(20,ij 0),(22,ij 2),(23,.own 962 5),(24,ij 0),(26,ij 16)]
noncomputable def E5:E:=EM M LE5 (.leaf .any)
noncomputable def LV5:List (Nat×VO):=[q0,q5,q1,q6,q2,q3,q4,q7,q8,q9,q10]
noncomputable def S5:S:=⟨fromV LV5 (.leaf none),1066,0⟩
theorem qc4:Vh Pt.pr 1000000 M ((((((xX Pt.ff567.body).drop 8).drop 2).drop 2).drop 1).take 1) .normal LE5 [] LV5 1066 0 E4 [] S4=true:=by kernel_rfl
theorem c4:seg Pt.pr 1000000 M ((((((xX Pt.ff567.body).drop 8).drop 2).drop 2).drop 1).take 1) (LE5.map (·.1)) (LV5.map (·.1)) E4 [] S4=some (E5,[],S5):=zCH qc4
noncomputable def LE6:List (Nat×T):=[(0,.bool false),(1,.ptr 26 0),(2,.ptr 27 0),(3,.slice 28 0 5 5),(4,.slice 86 0 3 3),(5,.slice 87 0 3 3),(6,ij 0),(7,ij 3),(8,ij 0),(10,ij 18),(12,ij 15),(13,ij 3),(14,ij 0),(15,.slice 407 0 5 5),(16,ij 0),(17,.slice 499 0 4 4),(18,ij 0),(19,.own 695 2),(20,ij 0),(22,ij 2),(23,.own 962 5),(24,ij 0),(26,ij 16),(28,ij 3),(29,.own 1284 2),(30,ij 0),(31,ij 18),(32,ij 3)]
noncomputable def E6:E:=EM M LE6 (.leaf .any)
noncomputable def LV6:List (Nat×VO):=[q0,q5,q1,q6,q2,q3,q4,q7,q8,q9,q10,(1284,.row [ij 0,ij 3] 3 true)]
noncomputable def S6:S:=⟨fromV LV6 (.leaf none),1401,0⟩
theorem qc5:Vh Pt.pr 1000000 M (((((((xX Pt.ff567.body).drop 8).drop 2).drop 2).drop 1).drop 1).take 3) .normal LE6 [] LV6 1401 0 E5 [] S5=true:=by kernel_rfl
theorem c5:seg Pt.pr 1000000 M (((((((xX Pt.ff567.body).drop 8).drop 2).drop 2).drop 1).drop 1).take 3) (LE6.map (·.1)) (LV6.map (·.1)) E5 [] S5=some (E6,[],S6):=zCH qc5
noncomputable def LE7:List (Nat×T):=[(0,.bool false),(1,.ptr 26 0),(3,.slice 28 0 5 5),(4,.slice 86 0 3 3),(5,.slice 87 0 3 3),(6,ij 0),(7,ij 3),(8,ij 0),(10,ij 18),(12,ij 15),(13,ij 3),(14,ij 0),(15,.slice 407 0 5 5),(16,ij 0),(17,.slice 499 0 4 4),(18,ij 0),(19,.own 695 2),(20,ij 0),(22,ij 2),(23,.own 962 5),(24,ij 0),(26,ij 16),(28,ij 3),(29,.own 1284 2),(30,ij 0),(31,ij 18),(32,ij 3),(33,ij 2),(34,ij 0),(36,ij 14),(37,.dh),(38,.own 1609 2),(39,ij 0),(40,ij 1),(41,ij 0),(43,ij 3)]
noncomputable def E7:E:=EM M LE7 (.leaf .any)
noncomputable def LV7:List (Nat×VO):=[q0,q1,q2,q3,q4,q7,q8,q9,q10,(1284,.row [ij 0,ij 3] 3 true),(1609,.row [ij 0,ij 1] 3 true)]
noncomputable def S7:S:=⟨fromV LV7 (.leaf none),1729,0⟩
theorem qc6:Vh Pt.pr 1000000 M ((((((((xX Pt.ff567.body).drop 8).drop 2).drop 2).drop 1).drop 1).drop 3).take 5) .normal LE7 [] LV7 1729 0 E6 [] S6=true:=by kernel_rfl
theorem c6:seg Pt.pr 1000000 M ((((((((xX Pt.ff567.body).drop 8).drop 2).drop 2).drop 1).drop 1).drop 3).take 5) (LE7.map (·.1)) (LV7.map (·.1)) E6 [] S6=some (E7,[],S7):=zCH qc6
theorem c7:lastB Pt.pr 1000000 M Pt.ff567.res ((((((((xX Pt.ff567.body).drop 8).drop 2).drop 2).drop 1).drop 1).drop 3).drop 5) E7 [] S7=true:=by kernel_rfl
theorem works567 (h:Eng.Heap):ak Tryz.prog 567 #[] h (fun v h'=>v= .bool true/\Ext h h'):=
 XB Pt.ok Pt.lb (f:=567) (fi:=Pt.ff567) (by kernel_rfl) (by decide+kernel) (.next 8 _ _ c0 (.next 2 _ _ c1 (.next 2 _ _ c2 (.next 1 _ _ c3 (.next 1 _ _ c4 (.next 3 _ _ c5 (.next 5 _ _ c6 (.last c7)))))))) h
end Go.Proofs.YtejmkibjpaoahaaGreatDoor.W02
