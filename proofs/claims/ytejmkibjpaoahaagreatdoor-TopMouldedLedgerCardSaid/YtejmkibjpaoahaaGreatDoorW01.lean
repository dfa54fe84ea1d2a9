/- Lemmas. No condition. -/
import Derived.Test.YtejmkibjpaoahaaGreatDoorRunX
import Derived.Test.YtejmkibjpaoahaaGreatDoorW01M
namespace Go.Proofs.YtejmkibjpaoahaaGreatDoor.W01
open Go Go.Proofs Go.Run Go.Eng
set_option maxRecDepth 100000
noncomputable def q0:Nat×VO:=(4,.row (il [90,0,0,0,0,20,1000,1000,0,0,120,0,0,1000,1000,50,180,220,10,20]) 723 false)
noncomputable def q1:Nat×VO:=(7,.row (il [20,1000,1000,0,0,50,180,220,10,20]) 723 false)
noncomputable def q2:Nat×VO:=(9,.row [ij 100,ij 10] 674 false)
noncomputable def q3:Nat×VO:=(92,.row [ij 3959,ij 55] 473 false)
noncomputable def q4:Nat×VO:=(273,.row [ij 180,ij 1] 473 false)
noncomputable def q5:Nat×VO:=(274,.row [ij 220,ij 1] 473 false)
noncomputable def q6:Nat×VO:=(614,.row [ij 3959,ij 55] 473 false)
noncomputable def q7:Nat×VO:=(1015,.row [ij 610,ij 9] 473 false)
noncomputable def q8:Nat×VO:=(1107,.row [ij 118800,ij 0,ij 1200,ij 100000] 2 false)
noncomputable def q9:Nat×VO:=(1108,.row [ij 3959,ij 55] 473 false)
@[reducible] noncomputable def M:Fm:=⟨gV Pt.ff566.nt,Pt.ff566.nt⟩
noncomputable def LE1:List (Nat×T):=[(0,.bool false),(1,.slice 4 0 4 4),(2,.slice 7 0 2 2),(3,.ptr 9 0),(4,.ptr 92 0),(5,ij 0),(7,ij 2),(9,ij 15),(10,.ptr 273 0),(11,.ptr 274 0),(12,ij 0),(13,ij 0),(14,ij 17),(15,ij 0),(16,ij 17),(17,.ptr 614 0),(18,ij 0)]
noncomputable def E1:E:=EM M LE1 (.leaf .any)
noncomputable def LV1:List (Nat×VO):=[q0,q1,q2,q3,q4,q5,q6]
noncomputable def S1:S:=⟨fromV LV1 (.leaf none),615,0⟩
theorem qc0:Vh W01M.p 1000000 M ((xX Pt.ff566.body).take 9) .normal LE1 [] LV1 615 0 (.leaf fB) [] s0=true:=by kernel_rfl
theorem c0:seg W01M.p 1000000 M ((xX Pt.ff566.body).take 9) (LE1.map (·.1)) (LV1.map (·.1)) (.leaf fB) [] s0=some (E1,[],S1):=zCH qc0
noncomputable def LE2:List (Nat×T):=[(0,.bool false),(1,.slice 4 0 4 4),(2,.slice 7 0 2 2),(3,.ptr 9 0),(4,.ptr 92 0),(5,ij 0),(7,ij 2),(9,ij 15),(10,.ptr 273 0),(11,.ptr 274 0),(12,ij 0),(13,ij 0),(14,ij 17),(15,ij 0),(16,ij 17),(17,.ptr 614 0),(18,ij 0),(19,.ptr 1015 0),(20,ij 0),(22,ij 17),(23,.slice 1107 0 4 4),(24,ij 0),(25,.ptr 1108 0),(26,ij 0),(28,ij 14)]
noncomputable def E2:E:=EM M LE2 (.leaf .any)
noncomputable def LV2:List (Nat×VO):=[q0,q1,q2,q3,q4,q5,q6,q7,q8,q9]
noncomputable def S2:S:=⟨fromV LV2 (.leaf none),1298,0⟩
theorem qc1:Vh W01M.p 1000000 M (((xX Pt.ff566.body).drop 9).take 5) .normal LE2 [] LV2 1298 0 E1 [] S1=true:=by kernel_rfl
theorem c1:seg W01M.p 1000000 M (((xX Pt.ff566.body).drop 9).take 5) (LE2.map (·.1)) (LV2.map (·.1)) E1 [] S1=some (E2,[],S2):=zCH qc1
noncomputable def LE3:List (Nat×T):=[(0,.bool false),(1,.slice 4 0 4 4),(2,.slice 7 0 2 2),(3,.ptr 9 0),(4,.ptr 92 0),(5,ij 0),(7,ij 2),(9,ij 15),(10,.ptr 273 0),(11,.ptr 274 0),(12,ij 0),(13,ij 0),(14,ij 17),(15,ij 0),(16,ij 17),(17,.ptr 614 0),(18,ij 0),(19,.ptr 1015 0),(20,ij 0),(22,ij 17),(23,.slice 1107 0 4 4),(24,ij 0),(25,.ptr 1108 0),(26,ij 0),(28,ij 14),(29,.ptr 1323 0),(30,ij 0),(31,ij 0),(32,ij 14)]
noncomputable def E3:E:=EM M LE3 (.leaf .any)
noncomputable def LV3:List (Nat×VO):=[q0,q1,q2,q3,q4,q5,q6,q7,q8,q9,(1323,.row [ij 220000,ij 19800000,ij 40300,ij 6600] 684 false)]
noncomputable def S3:S:=⟨fromV LV3 (.leaf none),1442,0⟩
theorem qc2:Vh W01M.p 1000000 M ((((xX Pt.ff566.body).drop 9).drop 5).take 2) .normal LE3 [] LV3 1442 0 E2 [] S2=true:=by kernel_rfl
theorem c2:seg W01M.p 1000000 M ((((xX Pt.ff566.body).drop 9).drop 5).take 2) (LE3.map (·.1)) (LV3.map (·.1)) E2 [] S2=some (E3,[],S3):=zCH qc2
noncomputable def LE4:List (Nat×T):=[(0,.bool false),(1,.slice 4 0 4 4),(2,.slice 7 0 2 2),(3,.ptr 9 0),(4,.ptr 92 0),(10,.ptr 273 0),(11,.ptr 274 0),(17,.ptr 614 0),(19,.ptr 1015 0),(23,.slice 1107 0 4 4),(25,.ptr 1108 0),(33,.ptr 1581 0),(37,.ptr 2202 0),(38,.ptr 2203 0),(43,.ptr 2318 0),(44,ij 0)]
noncomputable def E4:E:=EM M LE4 (.leaf .any)
noncomputable def LV4:List (Nat×VO):=[q0,q1,q2,q3,q4,q5,q6,q7,q8,q9,(1581,.row [ij 0,ij 220,ij 1,ij 0] 684 false),(2202,.row [ij 0,ij 1] 473 false),(2203,.row [ij 5,ij 11] 473 false),(2318,.row [ij 3959,ij 55] 473 false)]
noncomputable def S4:S:=⟨fromV LV4 (.leaf none),2319,0⟩
theorem qc3:Vh W01M.p 1000000 M (((((xX Pt.ff566.body).drop 9).drop 5).drop 2).take 7) .normal LE4 [] LV4 2319 0 E3 [] S3=true:=by kernel_rfl
theorem c3:seg W01M.p 1000000 M (((((xX Pt.ff566.body).drop 9).drop 5).drop 2).take 7) (LE4.map (·.1)) (LV4.map (·.1)) E3 [] S3=some (E4,[],S4):=zCH qc3
theorem c4:lastB W01M.p 1000000 M Pt.ff566.res (((((xX Pt.ff566.body).drop 9).drop 5).drop 2).drop 7) E4 [] S4=true:=by kernel_rfl
theorem works566 (h:Eng.Heap):ak Tryz.prog 566 #[] h (fun v h'=>v= .bool true/\Ext h h'):=
 XB W01M.ok W01M.lb (f:=566) (fi:=Pt.ff566) (by kernel_rfl) (by decide+kernel) (.next 9 _ _ c0 (.next 5 _ _ c1 (.next 2 _ _ c2 (.next 7 _ _ c3 (.last c4))))) h
end Go.Proofs.YtejmkibjpaoahaaGreatDoor.W01
