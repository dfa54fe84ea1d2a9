/- Lemmas. No condition. -/
import Derived.Test.YtejmkibjpaoahaaGreatDoorOk
import Derived.Test.YtejmkibjpaoahaaGreatDoorRunX
namespace Go.Proofs.YtejmkibjpaoahaaGreatDoor.W04
open Go Go.Proofs Go.Run Go.Eng
set_option maxRecDepth 100000
@[reducible] noncomputable def M:Fm:=⟨gV Pt.ff501.nt,Pt.ff501.nt⟩
noncomputable def LE1:List (Nat×T):=[(0,.bool false),(1,ij 3),(2,ij 2),(3,.own 27 5),(4,ij 0),(6,ij 3),(7,.own 79 5),(8,ij 3),(9,ij 0),(10,ij 2),(11,ij 0),(12,ij 3),(13,ij 0),(15,ij 15),(16,.slice 165 0 4 4),(17,ij 0),(18,ij 14),(19,ij 3),(20,ij 11),(21,ij 0),(22,ij 6),(23,ij 0),(25,ij 6),(26,.own 255 4),(27,ij 0),(29,ij 6),(30,.own 296 8),(31,ij 0)]
noncomputable def E1:E:=EM M LE1 (.leaf .any)
noncomputable def LV1:List (Nat×VO):=[(27,.row (il [0,0,1,0,1]) 3 true),(79,.row (il [0,0,1,0,1]) 3 true),(165,.row [ij 0,ij 1,ij 3,ij 4] 3 false),(232,.row [ij 0,ij 0,ij 0] 3 false),(241,.row [ij 0,ij 0,ij 1] 3 false),(249,.row [ij 0,ij 1,ij 1] 3 false),(254,.row [ij 1,ij 1,ij 1] 3 false),(255,.row [.slice 232 0 3 3,.slice 241 0 3 3,.slice 249 0 3 3,.slice 254 0 3 3] 29 true),(296,.row (il [0,0,0,1,0,1,1,1]) 3 true)]
noncomputable def S1:S:=⟨fromV LV1 (.leaf none),299,22⟩
theorem qc0:Vh Pt.pr 1000000 M ((xX Pt.ff501.body).take 16) .normal LE1 [] LV1 299 22 (.leaf fB) [] s0=true:=by kernel_rfl
theorem c0:seg Pt.pr 1000000 M ((xX Pt.ff501.body).take 16) (LE1.map (·.1)) (LV1.map (·.1)) (.leaf fB) [] s0=some (E1,[],S1):=zCH qc0
theorem c1:lastB Pt.pr 1000000 M Pt.ff501.res ((xX Pt.ff501.body).drop 16) E1 [] S1=true:=by kernel_rfl
theorem works501 (h:Eng.Heap):ak Tryz.prog 501 #[] h (fun v h'=>v= .bool true/\Ext h h'):=
 XB Pt.ok Pt.lb (f:=501) (fi:=Pt.ff501) (by kernel_rfl) (by decide+kernel) (.next 16 _ _ c0 (.last c1)) h
end Go.Proofs.YtejmkibjpaoahaaGreatDoor.W04
