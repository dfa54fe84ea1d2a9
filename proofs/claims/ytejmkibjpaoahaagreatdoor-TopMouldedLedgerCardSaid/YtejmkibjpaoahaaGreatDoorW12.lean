/- Lemmas. No condition. -/
import Derived.Test.YtejmkibjpaoahaaGreatDoorOk
namespace Go.Proofs.YtejmkibjpaoahaaGreatDoor.W12
open Go Go.Proofs Go.Run Go.Eng
set_option maxRecDepth 100000
noncomputable def q0:Nat×VO:=(4,.row [ij 1,ij 0,ij 1,ij 5,ij 3,ij 1,ij 2,ij 3,ij 3,ij 2,ij 0,ij 1] 39 false)
noncomputable def q1:Nat×VO:=(275,.row [ij 1,ij 0,ij 1,ij 5,ij 3,ij 1,ij 2,ij 3,ij 3,ij 2,ij 0,ij 1,ij 3,ij 3,ij 0,ij 4] 39 true)
noncomputable def q2:Nat×VO:=(474,.row [ij 1,ij 0,ij 1,ij 5,ij 3,ij 1,ij 2,ij 3,ij 3,ij 2,ij 0,ij 1,ij 4,ij 2,ij 1,ij 3] 39 true)
noncomputable def q3:Nat×VO:=(611,.row [ij 1,ij 0,ij 1,ij 5,ij 3,ij 1,ij 2,ij 3,ij 3,ij 2,ij 0,ij 1] 39 true)
@[reducible] noncomputable def M:Fm:=⟨gV Pt.ff31.nt,Pt.ff31.nt⟩
noncomputable def E1:E:=EM M [(0,.bool false),(1,.ptr 5 0),(2,.slice 56 0 4 4),(3,ij 0),(5,ij 3),(6,.own 170 2),(7,ij 0),(9,ij 2),(10,.ptr 219 0),(11,ij 0),(13,ij 25),(15,ij 16),(16,.ptr 475 0),(17,ij 0),(19,ij 16),(21,ij 2),(22,.ptr 612 0),(23,ij 0),(25,ij 25),(26,ij 1),(27,ij 0),(29,ij 14),(30,ij 2),(31,ij 0),(32,ij 2),(33,ij 0),(35,ij 25)] (.leaf .any)
noncomputable def S1:S:=⟨fromV [q0,(5,.row [ij 4,ij 2,.slice 4 0 3 3] 35 false),(56,.row [ij (-4),ij 2,ij 2,ij 0] 2 false),(170,.row [ij 1,ij 2] 3 true),(219,.row [ij 4,ij 2,.own 275 4] 35 false),q1,q2,(475,.row [ij 4,ij 2,.own 474 4] 35 false),q3,(612,.row [ij 4,ij 3,.own 611 3] 35 false)] (.leaf none),1084,0⟩
theorem c0:seg Pt.pr 1000000 M ((xX Pt.ff31.body).take 19) [0,1,2,3,5,6,7,9,10,11,13,15,16,17,19,21,22,23,25,26,27,29,30,31,32,33,35] [4,5,56,170,219,275,474,475,611,612] (.leaf fB) [] s0=some (E1,[],S1):=by kernel_rfl
noncomputable def E2:E:=EM M [(0,.bool false),(1,.ptr 5 0),(2,.slice 56 0 4 4),(3,ij 0),(5,ij 3),(6,.own 170 2),(7,ij 0),(9,ij 2),(10,.ptr 219 0),(11,ij 0),(13,ij 25),(15,ij 16),(16,.ptr 475 0),(17,ij 0),(19,ij 16),(21,ij 2),(22,.ptr 612 0),(23,ij 0),(25,ij 25),(26,ij 1),(27,ij 0),(29,ij 14),(30,ij 2),(31,ij 0),(32,ij 2),(33,ij 0),(35,ij 25),(36,.own 1241 2),(37,ij 0),(38,.str [102]),(39,ij 0),(40,ij 0),(41,ij 14),(42,ij 8),(43,.str [52,32,50,32,101,10,49,32,48,32,49,32,53,32,102,10,51,32,49,32,50,32,51,32,98,10,51,32,50,32,48,32,49,32,103,10,51,32,57,32,108,10]),(44,ij 0)] (.leaf .any)
noncomputable def S2:S:=⟨fromV [q0,(5,.row [ij 4,ij 2,.slice 4 0 3 3] 35 false),(56,.row [ij (-4),ij 2,ij 2,ij 0] 2 false),(170,.row [ij 1,ij 2] 3 true),(219,.row [ij 4,ij 2,.own 275 4] 35 false),q1,q2,(475,.row [ij 4,ij 2,.own 474 4] 35 false),q3,(612,.row [ij 4,ij 3,.own 611 3] 35 false),(1241,.row [ij 1,ij 0,ij 4,ij 2,ij 1,ij 2] 107 true)] (.leaf none),1385,0⟩
theorem c1:seg Pt.pr 1000000 M (((xX Pt.ff31.body).drop 19).take 4) [0,1,2,3,5,6,7,9,10,11,13,15,16,17,19,21,22,23,25,26,27,29,30,31,32,33,35,36,37,38,39,40,41,42,43,44] [4,5,56,170,219,275,474,475,611,612,1241] E1 [] S1=some (E2,[],S2):=by kernel_rfl
theorem c2:lastB Pt.pr 1000000 M Pt.ff31.res (((xX Pt.ff31.body).drop 19).drop 4) E2 [] S2=true:=by kernel_rfl
theorem works31 (h:Eng.Heap):ak Tryz.prog 31 #[] h (fun v h'=>v= .bool true/\Ext h h'):=
 XB Pt.ok Pt.lb (f:=31) (fi:=Pt.ff31) (by kernel_rfl) (by decide+kernel) (.next 19 _ _ c0 (.next 4 _ _ c1 (.last c2))) h
end Go.Proofs.YtejmkibjpaoahaaGreatDoor.W12
