/- Lemmas. No condition. -/
import Derived.Test.YtejmkibjpaoahaaGreatDoorOk
import Derived.Test.YtejmkibjpaoahaaGreatDoorRunX
namespace Go.Proofs.YtejmkibjpaoahaaGreatDoor.W09
open Go Go.Proofs Go.Run Go.Eng
set_option maxRecDepth 100000
noncomputable def q0:Nat×VO:=(0,.row (il [2,0,4,1,3]) 3 false)
noncomputable def q1:Nat×VO:=(7,.row (il [2,0,4,1,3]) 3 false)
noncomputable def q2:Nat×VO:=(92,.row (il [2,0,4,1,3]) 3 true)
noncomputable def q3:Nat×VO:=(178,.row (il [2,2,2,0,0]) 3 false)
noncomputable def q4:Nat×VO:=(1,.row (il [0,1,2,4,3]) 3 false)
@[reducible] noncomputable def M:Fm:=⟨gV Pt.ff189.nt,Pt.ff189.nt⟩
noncomputable def LE1:List (Nat×T):=[(0,.bool false),(1,.slice 0 0 5 5),(2,.slice 1 0 5 5),(3,.slice 7 0 5 5),(4,ij 0),(6,ij 2),(7,.own 92 5),(8,ij 0),(10,ij 3),(11,.slice 178 0 5 5),(12,ij 0),(14,ij 16)]
noncomputable def E1:E:=EM M LE1 (.leaf .any)
noncomputable def LV1:List (Nat×VO):=[q0,q4,q1,q2,q3]
noncomputable def S1:S:=⟨fromV LV1 (.leaf none),194,6⟩
theorem qc0:Vh Pt.pr 1000000 M ((xX Pt.ff189.body).take 8) .normal LE1 [] LV1 194 6 (.leaf fB) [] s0=true:=by kernel_rfl
theorem c0:seg Pt.pr 1000000 M ((xX Pt.ff189.body).take 8) (LE1.map (·.1)) (LV1.map (·.1)) (.leaf fB) [] s0=some (E1,[],S1):=zCH qc0
noncomputable def LE2:List (Nat×T):=[(0,.bool false),(1,.slice 0 0 5 5),(2,.slice 1 0 5 5),(3,.slice 7 0 5 5),(4,ij 0),(6,ij 2),(7,.own 92 5),(8,ij 0),(10,ij 3),(11,.slice 178 0 5 5),(12,ij 0),(14,ij 16),(15,ij 3),(16,ij 0),(17,ij 2),(18,ij 0),(20,ij 3)]
noncomputable def E2:E:=EM M LE2 (.leaf .any)
noncomputable def LV2:List (Nat×VO):=[q0,q4,q1,q2,q3]
noncomputable def S2:S:=⟨fromV LV2 (.leaf none),267,6⟩
theorem qc1:Vh Pt.pr 1000000 M (((xX Pt.ff189.body).drop 8).take 3) .normal LE2 [] LV2 267 6 E1 [] S1=true:=by kernel_rfl
theorem c1:seg Pt.pr 1000000 M (((xX Pt.ff189.body).drop 8).take 3) (LE2.map (·.1)) (LV2.map (·.1)) E1 [] S1=some (E2,[],S2):=zCH qc1
noncomputable def LE3:List (Nat×T):=[(0,.bool false),(1,.slice 0 0 5 5),(2,.slice 1 0 5 5),(3,.slice 7 0 5 5),(4,ij 0),(6,ij 2),(7,.own 92 5),(8,ij 0),(10,ij 3),(11,.slice 178 0 5 5),(12,ij 0),(14,ij 16),(15,ij 3),(16,ij 0),(17,ij 2),(18,ij 0),(20,ij 3),(21,ij 3),(22,ij 60),(23,ij 0)]
noncomputable def E3:E:=EM M LE3 (.leaf .any)
noncomputable def LV3:List (Nat×VO):=[q0,q4,q1,q2,q3]
noncomputable def S3:S:=⟨fromV LV3 (.leaf none),376,6⟩
theorem qc2:Vh Pt.pr 1000000 M ((((xX Pt.ff189.body).drop 8).drop 3).take 1) .normal LE3 [] LV3 376 6 E2 [] S2=true:=by kernel_rfl
theorem c2:seg Pt.pr 1000000 M ((((xX Pt.ff189.body).drop 8).drop 3).take 1) (LE3.map (·.1)) (LV3.map (·.1)) E2 [] S2=some (E3,[],S3):=zCH qc2
noncomputable def LE4:List (Nat×T):=[(0,.bool false),(1,.slice 0 0 5 5),(2,.slice 1 0 5 5),(3,.slice 7 0 5 5),(4,ij 0),(6,ij 2),(7,.own 92 5),(8,ij 0),(10,ij 3),(11,.slice 178 0 5 5),(12,ij 0),(14,ij 16),(15,ij 3),(16,ij 0),(17,ij 2),(18,ij 0),(20,ij 3),(21,ij 3),(22,ij 60),(23,ij 0),(24,ij 13),(25,ij 20),(26,ij 0)]
noncomputable def E4:E:=EM M LE4 (.leaf .any)
noncomputable def LV4:List (Nat×VO):=[q0,q4,q1,q2,q3]
noncomputable def S4:S:=⟨fromV LV4 (.leaf none),426,6⟩
theorem qc3:Vh Pt.pr 1000000 M (((((xX Pt.ff189.body).drop 8).drop 3).drop 1).take 1) .normal LE4 [] LV4 426 6 E3 [] S3=true:=by kernel_rfl
theorem c3:seg Pt.pr 1000000 M (((((xX Pt.ff189.body).drop 8).drop 3).drop 1).take 1) (LE4.map (·.1)) (LV4.map (·.1)) E3 [] S3=some (E4,[],S4):=zCH qc3
noncomputable def LE5:List (Nat×T):=[(0,.bool false),(1,.slice 0 0 5 5),(2,.slice 1 0 5 5),(3,.slice 7 0 5 5),(4,ij 0),(6,ij 2),(7,.own 92 5),(8,ij 0),(10,ij 3),(11,.slice 178 0 5 5),(12,ij 0),(14,ij 16),(15,ij 3),(16,ij 0),(17,ij 2),(18,ij 0),(20,ij 3),(21,ij 3),(22,ij 60),(23,ij 0),(24,ij 13),(25,ij 20),(26,ij 0),(29,ij 5)]
noncomputable def E5:E:=EM M LE5 (.leaf .any)
noncomputable def LV5:List (Nat×VO):=[q0,q4,q1,q2,q3]
noncomputable def S5:S:=⟨fromV LV5 (.leaf none),529,6⟩
theorem qc4:Vh Pt.pr 1000000 M ((((((xX Pt.ff189.body).drop 8).drop 3).drop 1).drop 1).take 1) .normal LE5 [] LV5 529 6 E4 [] S4=true:=by kernel_rfl
theorem c4:seg Pt.pr 1000000 M ((((((xX Pt.ff189.body).drop 8).drop 3).drop 1).drop 1).take 1) (LE5.map (·.1)) (LV5.map (·.1)) E4 [] S4=some (E5,[],S5):=zCH qc4
noncomputable def LE6:List (Nat×T):=[(0,.bool false),(1,.slice 0 0 5 5),(2,.slice 1 0 5 5),(3,.slice 7 0 5 5),(4,ij 0),(6,ij 2),(7,.own 92 5),(8,ij 0),(10,ij 3),(11,.slice 178 0 5 5),(12,ij 0),(14,ij 16),(15,ij 3),(16,ij 0),(17,ij 2),(18,ij 0),(20,ij 3),(21,ij 3),(22,ij 60),(23,ij 0),(24,ij 13),(25,ij 20),(26,ij 0),(29,ij 5),(30,ij 1),(31,ij 3),(32,ij 0),(35,ij 5)]
noncomputable def E6:E:=EM M LE6 (.leaf .any)
noncomputable def LV6:List (Nat×VO):=[q0,q4,q1,q2,q3]
noncomputable def S6:S:=⟨fromV LV6 (.leaf none),736,6⟩
theorem qc5:Vh Pt.pr 1000000 M (((((((xX Pt.ff189.body).drop 8).drop 3).drop 1).drop 1).drop 1).take 2) .normal LE6 [] LV6 736 6 E5 [] S5=true:=by kernel_rfl
theorem c5:seg Pt.pr 1000000 M (((((((xX Pt.ff189.body).drop 8).drop 3).drop 1).drop 1).drop 1).take 2) (LE6.map (·.1)) (LV6.map (·.1)) E5 [] S5=some (E6,[],S6):=zCH qc5
noncomputable def LE7:List (Nat×T):=[(0,.bool false),(1,.slice 0 0 5 5),(3,.slice 7 0 5 5),(4,ij 0),(6,ij 2),(7,.own 92 5),(8,ij 0),(10,ij 3),(11,.slice 178 0 5 5),(12,ij 0),(14,ij 16),(15,ij 3),(16,ij 0),(17,ij 2),(18,ij 0),(20,ij 3),(21,ij 3),(22,ij 60),(23,ij 0),(24,ij 13),(25,ij 20),(26,ij 0),(29,ij 5),(30,ij 1),(31,ij 3),(32,ij 0),(35,ij 5),(36,ij 0),(37,ij 14),(38,ij 2)]
noncomputable def E7:E:=EM M LE7 (.leaf .any)
noncomputable def LV7:List (Nat×VO):=[q0,q1,q2,q3]
noncomputable def S7:S:=⟨fromV LV7 (.leaf none),951,6⟩
theorem qc6:Vh Pt.pr 1000000 M ((((((((xX Pt.ff189.body).drop 8).drop 3).drop 1).drop 1).drop 1).drop 2).take 1) .normal LE7 [] LV7 951 6 E6 [] S6=true:=by kernel_rfl
theorem c6:seg Pt.pr 1000000 M ((((((((xX Pt.ff189.body).drop 8).drop 3).drop 1).drop 1).drop 1).drop 2).take 1) (LE7.map (·.1)) (LV7.map (·.1)) E6 [] S6=some (E7,[],S7):=zCH qc6
theorem c7:lastB Pt.pr 1000000 M Pt.ff189.res ((((((((xX Pt.ff189.body).drop 8).drop 3).drop 1).drop 1).drop 1).drop 2).drop 1) E7 [] S7=true:=by kernel_rfl
theorem works189 (h:Eng.Heap):ak Tryz.prog 189 #[] h (fun v h'=>v= .bool true/\Ext h h'):=
 XB Pt.ok Pt.lb (f:=189) (fi:=Pt.ff189) (by kernel_rfl) (by decide+kernel) (.next 8 _ _ c0 (.next 3 _ _ c1 (.next 1 _ _ c2 (.next 1 _ _ c3 (.next 1 _ _ c4 (.next 2 _ _ c5 (.next 1 _ _ c6 (.last c7)))))))) h
end Go.Proofs.YtejmkibjpaoahaaGreatDoor.W09
