/- Lemmas. No condition. -/
import Derived.Test.YtejmkibjpaoahaaGreatDoorRunX
import Derived.Test.YtejmkibjpaoahaaGreatDoorW08M
namespace Go.Proofs.YtejmkibjpaoahaaGreatDoor.W08
open Go Go.Proofs Go.Run Go.Eng
set_option maxRecDepth 100000
@[reducible] noncomputable def M:Fm:=⟨gV Pt.ff271.nt,Pt.ff271.nt⟩
noncomputable def LE1:List (Nat×T):=[(0,.bool false),(1,.ptr 2 0),(2,.own 76 5),(3,ij 0),(4,.slice 207 0 3 3),(5,ij 0),(7,ij 2),(8,ij 23),(9,ij 0),(10,.dh),(11,.own 944 1),(12,ij 0),(15,ij 5),(16,.own 1502 2),(17,ij 0),(19,ij 23),(20,ij 16),(21,ij 0),(22,.own 2191 1),(23,ij 1),(24,ij 0),(25,.dh),(26,ij 3),(27,ij 0)]
noncomputable def E1:E:=EM M LE1 (.leaf .any)
noncomputable def LV1:List (Nat×VO):=[(2,.row [ij 4,ij 1] 399 false),(38,.row [ij 0] 3 true),(50,.row [ij 1] 3 true),(62,.row [ij 2] 3 true),(74,.row [ij 3] 3 true),(76,.row [.dh,.own 38 1,.own 50 1,.own 62 1,.own 74 1] 29 true),(207,.row [ij 1,ij 1,ij 0] 3 false),(944,.row [ij 3] 3 true),(1485,.row [ij 3] 3 true),(1502,.row [.dh,.own 1485 1,.dh,.dh,.dh] 29 true),(2191,.row [ij 0] 3 true)]
noncomputable def S1:S:=⟨fromV LV1 (.leaf none),2401,0⟩
theorem qc0:Vh W08M.p 1000000 M ((xX Pt.ff271.body).take 13) .normal LE1 [] LV1 2401 0 (.leaf fB) [] s0=true:=by kernel_rfl
theorem c0:seg W08M.p 1000000 M ((xX Pt.ff271.body).take 13) (LE1.map (·.1)) (LV1.map (·.1)) (.leaf fB) [] s0=some (E1,[],S1):=zCH qc0
theorem c1:lastB W08M.p 1000000 M Pt.ff271.res ((xX Pt.ff271.body).drop 13) E1 [] S1=true:=by kernel_rfl
theorem works271 (h:Eng.Heap):ak Tryz.prog 271 #[] h (fun v h'=>v= .bool true/\Ext h h'):=
 XB W08M.ok W08M.lb (f:=271) (fi:=Pt.ff271) (by kernel_rfl) (by decide+kernel) (.next 13 _ _ c0 (.last c1)) h
end Go.Proofs.YtejmkibjpaoahaaGreatDoor.W08
