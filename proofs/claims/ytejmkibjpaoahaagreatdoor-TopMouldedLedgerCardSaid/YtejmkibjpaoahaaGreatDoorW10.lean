/- Lemmas. No condition. -/
import Derived.Test.YtejmkibjpaoahaaGreatDoorOk
import Derived.Test.YtejmkibjpaoahaaGreatDoorRunX
namespace Go.Proofs.YtejmkibjpaoahaaGreatDoor.W10
open Go Go.Proofs Go.Run Go.Eng
set_option maxRecDepth 100000
noncomputable def q0:Nat×VO:=(247,.row (il [1,3,4,9,10,12,13]) 2 false)
noncomputable def q1:Nat×VO:=(1726,.row [ij (-1),ij (-1),ij 1] 2 true)
@[reducible] noncomputable def M:Fm:=⟨gV Pt.ff135.nt,Pt.ff135.nt⟩
noncomputable def LE1:List (Nat×T):=[(0,.bool false),(1,ij 5),(2,ij 3),(3,ij 0),(6,ij 3),(9,ij 15),(10,ij 16),(11,ij 3)]
noncomputable def E1:E:=EM M LE1 (.leaf .any)
noncomputable def LV1:List (Nat×VO):=[]
noncomputable def S1:S:=⟨fromV LV1 (.leaf none),131,2⟩
theorem qc0:Vh Pt.pr 1000000 M ((xX Pt.ff135.body).take 5) .normal LE1 [] LV1 131 2 (.leaf fB) [] s0=true:=by kernel_rfl
theorem c0:seg Pt.pr 1000000 M ((xX Pt.ff135.body).take 5) (LE1.map (·.1)) (LV1.map (·.1)) (.leaf fB) [] s0=some (E1,[],S1):=zCH qc0
noncomputable def LE2:List (Nat×T):=[(0,.bool false),(1,ij 5),(2,ij 3),(3,ij 0),(6,ij 3),(9,ij 15),(10,ij 16),(11,ij 3),(12,.slice 247 0 7 7),(13,ij 0)]
noncomputable def E2:E:=EM M LE2 (.leaf .any)
noncomputable def LV2:List (Nat×VO):=[q0]
noncomputable def S2:S:=⟨fromV LV2 (.leaf none),248,2⟩
theorem qc1:Vh Pt.pr 1000000 M (((xX Pt.ff135.body).drop 5).take 1) .normal LE2 [] LV2 248 2 E1 [] S1=true:=by kernel_rfl
theorem c1:seg Pt.pr 1000000 M (((xX Pt.ff135.body).drop 5).take 1) (LE2.map (·.1)) (LV2.map (·.1)) E1 [] S1=some (E2,[],S2):=zCH qc1
noncomputable def LE3:List (Nat×T):=[(0,.bool false),(1,ij 5),(2,ij 3),(3,ij 0),(6,ij 3),(9,ij 15),(10,ij 16),(11,ij 3),(12,.slice 247 0 7 7),(13,ij 0),(14,ij 13),(15,ij 0)]
noncomputable def E3:E:=EM M LE3 (.leaf .any)
noncomputable def LV3:List (Nat×VO):=[q0]
noncomputable def S3:S:=⟨fromV LV3 (.leaf none),428,2⟩
theorem qc2:Vh Pt.pr 1000000 M ((((xX Pt.ff135.body).drop 5).drop 1).take 1) .normal LE3 [] LV3 428 2 E2 [] S2=true:=by kernel_rfl
theorem c2:seg Pt.pr 1000000 M ((((xX Pt.ff135.body).drop 5).drop 1).take 1) (LE3.map (·.1)) (LV3.map (·.1)) E2 [] S2=some (E3,[],S3):=zCH qc2
noncomputable def LE4:List (Nat×T):=[(0,.bool false),(1,ij 5),(2,ij 3),(3,ij 0),(6,ij 3),(9,ij 15),(10,ij 16),(11,ij 3),(12,.slice 247 0 7 7),(13,ij 0),(14,ij 13),(15,ij 0),(16,ij 4),(17,ij 0),(19,ij 5)]
noncomputable def E4:E:=EM M LE4 (.leaf .any)
noncomputable def LV4:List (Nat×VO):=[q0]
noncomputable def S4:S:=⟨fromV LV4 (.leaf none),576,2⟩
theorem qc3:Vh Pt.pr 1000000 M (((((xX Pt.ff135.body).drop 5).drop 1).drop 1).take 2) .normal LE4 [] LV4 576 2 E3 [] S3=true:=by kernel_rfl
theorem c3:seg Pt.pr 1000000 M (((((xX Pt.ff135.body).drop 5).drop 1).drop 1).take 2) (LE4.map (·.1)) (LV4.map (·.1)) E3 [] S3=some (E4,[],S4):=zCH qc3
noncomputable def LE5:List (Nat×T):=[(0,.bool false),(1,ij 5),(2,ij 3),(3,ij 0),(6,ij 3),(9,ij 15),(10,ij 16),(11,ij 3),(12,.slice 247 0 7 7),(13,ij 0),(14,ij 13),(15,ij 0),(16,ij 4),(17,ij 0),(19,ij 5),(20,ij 2),(21,ij 0),(23,ij 3)]
noncomputable def E5:E:=EM M LE5 (.leaf .any)
noncomputable def LV5:List (Nat×VO):=[q0]
noncomputable def S5:S:=⟨fromV LV5 (.leaf none),710,2⟩
theorem qc4:Vh Pt.pr 1000000 M ((((((xX Pt.ff135.body).drop 5).drop 1).drop 1).drop 2).take 2) .normal LE5 [] LV5 710 2 E4 [] S4=true:=by kernel_rfl
theorem c4:seg Pt.pr 1000000 M ((((((xX Pt.ff135.body).drop 5).drop 1).drop 1).drop 2).take 2) (LE5.map (·.1)) (LV5.map (·.1)) E4 [] S4=some (E5,[],S5):=zCH qc4
noncomputable def LE6:List (Nat×T):=[(0,.bool false),(1,ij 5),(2,ij 3),(3,ij 0),(6,ij 3),(9,ij 15),(10,ij 16),(11,ij 3),(12,.slice 247 0 7 7),(13,ij 0),(14,ij 13),(15,ij 0),(16,ij 4),(17,ij 0),(19,ij 5),(20,ij 2),(21,ij 0),(23,ij 3),(24,ij 3),(25,ij 0)]
noncomputable def E6:E:=EM M LE6 (.leaf .any)
noncomputable def LV6:List (Nat×VO):=[q0]
noncomputable def S6:S:=⟨fromV LV6 (.leaf none),1133,2⟩
theorem qc5:Vh Pt.pr 1000000 M (((((((xX Pt.ff135.body).drop 5).drop 1).drop 1).drop 2).drop 2).take 1) .normal LE6 [] LV6 1133 2 E5 [] S5=true:=by kernel_rfl
theorem c5:seg Pt.pr 1000000 M (((((((xX Pt.ff135.body).drop 5).drop 1).drop 1).drop 2).drop 2).take 1) (LE6.map (·.1)) (LV6.map (·.1)) E5 [] S5=some (E6,[],S6):=zCH qc5
noncomputable def LE7:List (Nat×T):=[(0,.bool false),(1,ij 5),(2,ij 3),(3,ij 0),(6,ij 3),(9,ij 15),(10,ij 16),(11,ij 3),(12,.slice 247 0 7 7),(13,ij 0),(14,ij 13),(15,ij 0),(16,ij 4),(17,ij 0),(19,ij 5),(20,ij 2),(21,ij 0),(23,ij 3),(24,ij 3),(25,ij 0),(27,ij 24)]
noncomputable def E7:E:=EM M LE7 (.leaf .any)
noncomputable def LV7:List (Nat×VO):=[q0]
noncomputable def S7:S:=⟨fromV LV7 (.leaf none),1305,2⟩
theorem qc6:Vh Pt.pr 1000000 M ((((((((xX Pt.ff135.body).drop 5).drop 1).drop 1).drop 2).drop 2).drop 1).take 1) .normal LE7 [] LV7 1305 2 E6 [] S6=true:=by kernel_rfl
theorem c6:seg Pt.pr 1000000 M ((((((((xX Pt.ff135.body).drop 5).drop 1).drop 1).drop 2).drop 2).drop 1).take 1) (LE7.map (·.1)) (LV7.map (·.1)) E6 [] S6=some (E7,[],S7):=zCH qc6
noncomputable def LE8:List (Nat×T):=[(0,.bool false),(1,ij 5),(2,ij 3),(3,ij 0),(6,ij 3),(9,ij 15),(10,ij 16),(11,ij 3),(12,.slice 247 0 7 7),(13,ij 0),(14,ij 13),(15,ij 0),(16,ij 4),(17,ij 0),(19,ij 5),(20,ij 2),(21,ij 0),(23,ij 3),(24,ij 3),(25,ij 0),(27,ij 24),(28,.own 1726 3),(29,ij 0)]
noncomputable def E8:E:=EM M LE8 (.leaf .any)
noncomputable def LV8:List (Nat×VO):=[q0,q1]
noncomputable def S8:S:=⟨fromV LV8 (.leaf none),1728,2⟩
theorem qc7:Vh Pt.pr 1000000 M (((((((((xX Pt.ff135.body).drop 5).drop 1).drop 1).drop 2).drop 2).drop 1).drop 1).take 1) .normal LE8 [] LV8 1728 2 E7 [] S7=true:=by kernel_rfl
theorem c7:seg Pt.pr 1000000 M (((((((((xX Pt.ff135.body).drop 5).drop 1).drop 1).drop 2).drop 2).drop 1).drop 1).take 1) (LE8.map (·.1)) (LV8.map (·.1)) E7 [] S7=some (E8,[],S8):=zCH qc7
noncomputable def LE9:List (Nat×T):=[(0,.bool false),(1,ij 5),(2,ij 3),(3,ij 0),(6,ij 3),(9,ij 15),(10,ij 16),(11,ij 3),(12,.slice 247 0 7 7),(13,ij 0),(14,ij 13),(15,ij 0),(16,ij 4),(17,ij 0),(19,ij 5),(20,ij 2),(21,ij 0),(23,ij 3),(24,ij 3),(25,ij 0),(27,ij 24),(28,.own 1726 3),(29,ij 0),(30,ij 13),(31,ij 0)]
noncomputable def E9:E:=EM M LE9 (.leaf .any)
noncomputable def LV9:List (Nat×VO):=[q0,q1]
noncomputable def S9:S:=⟨fromV LV9 (.leaf none),1908,2⟩
theorem qc8:Vh Pt.pr 1000000 M ((((((((((xX Pt.ff135.body).drop 5).drop 1).drop 1).drop 2).drop 2).drop 1).drop 1).drop 1).take 1) .normal LE9 [] LV9 1908 2 E8 [] S8=true:=by kernel_rfl
theorem c8:seg Pt.pr 1000000 M ((((((((((xX Pt.ff135.body).drop 5).drop 1).drop 1).drop 2).drop 2).drop 1).drop 1).drop 1).take 1) (LE9.map (·.1)) (LV9.map (·.1)) E8 [] S8=some (E9,[],S9):=zCH qc8
noncomputable def LE10:List (Nat×T):=[(0,.bool false),(1,ij 5),(2,ij 3),(3,ij 0),(6,ij 3),(9,ij 15),(10,ij 16),(11,ij 3),(12,.slice 247 0 7 7),(13,ij 0),(14,ij 13),(15,ij 0),(16,ij 4),(17,ij 0),(19,ij 5),(20,ij 2),(21,ij 0),(23,ij 3),(24,ij 3),(25,ij 0),(27,ij 24),(28,.own 1726 3),(29,ij 0),(30,ij 13),(31,ij 0),(32,ij 2),(33,ij 24),(34,.own 2085 2),(35,ij 0),(36,ij 4),(37,ij 0),(39,ij 2)]
noncomputable def E10:E:=EM M LE10 (.leaf .any)
noncomputable def LV10:List (Nat×VO):=[q0,q1,(2085,.row [ij 2,ij 3] 2 true)]
noncomputable def S10:S:=⟨fromV LV10 (.leaf none),2096,2⟩
theorem qc9:Vh Pt.pr 1000000 M (((((((((((xX Pt.ff135.body).drop 5).drop 1).drop 1).drop 2).drop 2).drop 1).drop 1).drop 1).drop 1).take 4) .normal LE10 [] LV10 2096 2 E9 [] S9=true:=by kernel_rfl
theorem c9:seg Pt.pr 1000000 M (((((((((((xX Pt.ff135.body).drop 5).drop 1).drop 1).drop 2).drop 2).drop 1).drop 1).drop 1).drop 1).take 4) (LE10.map (·.1)) (LV10.map (·.1)) E9 [] S9=some (E10,[],S10):=zCH qc9
theorem c10:lastB Pt.pr 1000000 M Pt.ff135.res (((((((((((xX Pt.ff135.body).drop 5).drop 1).drop 1).drop 2).drop 2).drop 1).drop 1).drop 1).drop 1).drop 4) E10 [] S10=true:=by kernel_rfl
theorem works135 (h:Eng.Heap):ak Tryz.prog 135 #[] h (fun v h'=>v= .bool true/\Ext h h'):=
 XB Pt.ok Pt.lb (f:=135) (fi:=Pt.ff135) (by kernel_rfl) (by decide+kernel) (.next 5 _ _ c0 (.next 1 _ _ c1 (.next 1 _ _ c2 (.next 2 _ _ c3 (.next 2 _ _ c4 (.next 1 _ _ c5 (.next 1 _ _ c6 (.next 1 _ _ c7 (.next 1 _ _ c8 (.next 4 _ _ c9 (.last c10))))))))))) h
end Go.Proofs.YtejmkibjpaoahaaGreatDoor.W10
