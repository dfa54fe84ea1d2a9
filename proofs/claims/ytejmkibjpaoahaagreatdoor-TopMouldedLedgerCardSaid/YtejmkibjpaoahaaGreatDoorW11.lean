/- Lemmas. No condition. -/
import Derived.Test.YtejmkibjpaoahaaGreatDoorOk
namespace Go.Proofs.YtejmkibjpaoahaaGreatDoor.W11
open Go Go.Proofs Go.Run Go.Eng
set_option maxRecDepth 100000
@[reducible] noncomputable def M:Fm:=⟨gV Pt.ff79.nt,Pt.ff79.nt⟩
noncomputable def E1:E:=EM M [(0,.bool false),(1,.slice 6 0 2 2),(2,.slice 10 0 3 3),(3,.slice 14 0 3 3),(4,.ptr 54 0),(5,ij 0),(7,ij 3),(8,ij 109),(9,ij 0),(10,ij 96),(11,ij 0),(13,ij 4),(14,ij 0),(15,ij 16),(16,ij 15),(17,.slice 472 0 3 3),(18,ij 0),(20,ij 14),(21,.slice 760 0 3 3),(22,ij 0),(23,ij 2),(24,ij 0),(25,ij 1),(26,ij 0),(28,ij 5),(30,ij 2)] (.leaf .any)
noncomputable def S1:S:=⟨fromV [(6,.row [ij 900,ij 950,ij 1,ij 3,ij 1000,ij 1000,ij 0,ij 5] 193 false),(10,.row [ij 100,ij 105,ij 90,ij 92,ij 88,ij 95] 115 false),(14,.row [ij 100,ij 100,ij 95,ij 99,ij 80,ij 85] 115 false),(54,.row [ij 82,ij 103] 115 false),(472,.row [ij 100,ij 90,ij 88] 2 false),(760,.row [ij 100,ij 105,ij 90,ij 92,ij 88,ij 92] 115 false)] (.leaf none),1053,0⟩
theorem c0:seg Pt.pr 1000000 M ((xX Pt.ff79.body).take 15) [0,1,2,3,4,5,7,8,9,10,11,13,14,15,16,17,18,20,21,22,23,24,25,26,28,30] [6,10,14,54,472,760] (.leaf fB) [] s0=some (E1,[],S1):=by kernel_rfl
theorem c1:lastB Pt.pr 1000000 M Pt.ff79.res ((xX Pt.ff79.body).drop 15) E1 [] S1=true:=by kernel_rfl
theorem works79 (h:Eng.Heap):ak Tryz.prog 79 #[] h (fun v h'=>v= .bool true/\Ext h h'):=
 XB Pt.ok Pt.lb (f:=79) (fi:=Pt.ff79) (by kernel_rfl) (by decide+kernel) (.next 15 _ _ c0 (.last c1)) h
end Go.Proofs.YtejmkibjpaoahaaGreatDoor.W11
