/- Lemmas. No condition. -/
import Derived.Test.YtejmkibjpaoahaaGreatDoorRunX
import Derived.Test.YtejmkibjpaoahaaGreatDoorW06M
namespace Go.Proofs.YtejmkibjpaoahaaGreatDoor.W06
open Go Go.Proofs Go.Run Go.Eng
set_option maxRecDepth 100000
@[reducible] noncomputable def M:Fm:=⟨gV Pt.ff392.nt,Pt.ff392.nt⟩
noncomputable def LE1:List (Nat×T):=[(0,.bool false),(1,.ptr 17 0),(2,.ptr 18 0),(4,ij 3),(5,ij 0),(6,ij 2),(7,ij 21),(9,ij 3),(10,ij 2),(11,ij 0),(12,ij 0),(13,ij 16),(15,ij 21),(16,ij 2),(17,ij 0),(19,ij 21),(20,.own 557 2),(21,ij 0),(22,.slice 625 0 2 2),(23,ij 0),(24,ij 16),(25,ij 3),(26,.own 785 2),(27,ij 0),(28,.own 880 2),(29,ij 0),(30,ij 0),(31,ij 14),(32,.own 1424 2),(33,ij 0)]
noncomputable def E1:E:=EM M LE1 (.leaf .any)
noncomputable def LV1:List (Nat×VO):=[(1,.row [ij 0,ij 1] 3 false),(2,.row [ij 1,ij 2] 3 false),(3,.row [ij 2,ij 3] 3 false),(4,.row [ij 0,ij 3] 3 false),(5,.row [.slice 1 0 2 2,.slice 2 0 2 2,.slice 3 0 2 2,.slice 4 0 2 2] 29 false),(8,.row [ij 2] 3 false),(9,.row [ij 0,ij 1,ij 2] 3 false),(10,.row [ij 1,ij 3] 3 false),(11,.row [.slice 8 0 1 1,.slice 9 0 3 3,.slice 10 0 2 2] 29 false),(17,.row [ij 5,.slice 5 0 4 4] 526 false),(18,.row [ij 4,.slice 11 0 3 3] 526 false),(557,.row [ij 1,ij 2] 3 true),(625,.row [ij 0,ij 2] 3 false),(785,.row [ij 1,ij 2] 3 true),(880,.row [.own 881 2,.own 882 2] 29 true),(881,.row [ij 1,ij 2] 3 true),(882,.row [ij 2,ij 3] 3 true),(1424,.row [ij 1,ij 3] 3 true)]
noncomputable def S1:S:=⟨fromV LV1 (.leaf none),1433,0⟩
theorem qc0:Vh W06M.p 1000000 M ((xX Pt.ff392.body).take 17) .normal LE1 [] LV1 1433 0 (.leaf fB) [] s0=true:=by kernel_rfl
theorem c0:seg W06M.p 1000000 M ((xX Pt.ff392.body).take 17) (LE1.map (·.1)) (LV1.map (·.1)) (.leaf fB) [] s0=some (E1,[],S1):=zCH qc0
theorem c1:lastB W06M.p 1000000 M Pt.ff392.res ((xX Pt.ff392.body).drop 17) E1 [] S1=true:=by kernel_rfl
theorem works392 (h:Eng.Heap):ak Tryz.prog 392 #[] h (fun v h'=>v= .bool true/\Ext h h'):=
 XB W06M.ok W06M.lb (f:=392) (fi:=Pt.ff392) (by kernel_rfl) (by decide+kernel) (.next 17 _ _ c0 (.last c1)) h
end Go.Proofs.YtejmkibjpaoahaaGreatDoor.W06
