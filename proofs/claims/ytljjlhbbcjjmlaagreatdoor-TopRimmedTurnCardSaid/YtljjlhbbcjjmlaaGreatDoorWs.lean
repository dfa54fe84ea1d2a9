/- The examples of the layers hold, if those of their chapters do. No condition. -/
import Derived.Test.YtljjlhbbcjjmlaaGreatDoorW01
import Derived.Test.YtljjlhbbcjjmlaaGreatDoorW02
import Derived.Test.YtljjlhbbcjjmlaaGreatDoorW03
import Derived.Test.YtljjlhbbcjjmlaaGreatDoorW04
import Derived.Test.YtljjlhbbcjjmlaaGreatDoorW05
import Derived.Test.YtljjlhbbcjjmlaaGreatDoorW06
import Derived.Test.YtljjlhbbcjjmlaaGreatDoorW07
import Derived.Test.YtljjlhbbcjjmlaaGreatDoorW08
import Derived.Test.YtljjlhbbcjjmlaaGreatDoorW09
import Derived.Test.YtljjlhbbcjjmlaaGreatDoorRunM
namespace Go.Proofs.YtljjlhbbcjjmlaaGreatDoor.Ws
open Go Go.Proofs Go.Run Go.Eng
set_option maxRecDepth 100000
noncomputable def t3:List (Nat×Ans):=[(318,XR memT),(319,XR memT),(320,XR memT)]
theorem l3:fE Tryz.prog (U4 Pt.pr (GN t3)):=Zc Pt.lb t3 (List.forall_mem_cons.2 ⟨zBG (YL W01.works318),List.forall_mem_cons.2 ⟨zBG (YL W02.works319),List.forall_mem_cons.2 ⟨zBG (YL W03.works320),fun _ h=>(List.not_mem_nil h).elim⟩⟩⟩)
theorem b3:lastB (U4 Pt.pr (GN t3)) 1000 ⟨gV Pt.ff248.nt,Pt.ff248.nt⟩ Pt.ff248.res (xX Pt.ff248.body) (.leaf fB) [] s0=true:=by kernel_rfl
theorem works248 (h:Eng.Heap):ak Tryz.prog 248 #[] h (fun v h'=>v= .bool true/\Ext h h'):=
 XB (zAy Pt.ok _) l3 (f:=248) (fi:=Pt.ff248) (by kernel_rfl) (by decide+kernel) (.last b3) h
noncomputable def t4:List (Nat×Ans):=[(248,XR memT),(249,XR memT)]
theorem l4:fE Tryz.prog (U4 Pt.pr (GN t4)):=Zc Pt.lb t4 (List.forall_mem_cons.2 ⟨zBG (YL works248),List.forall_mem_cons.2 ⟨zBG (YL W04.works249),fun _ h=>(List.not_mem_nil h).elim⟩⟩)
theorem b4:lastB (U4 Pt.pr (GN t4)) 1000 ⟨gV Pt.ff189.nt,Pt.ff189.nt⟩ Pt.ff189.res (xX Pt.ff189.body) (.leaf fB) [] s0=true:=by kernel_rfl
theorem works189 (h:Eng.Heap):ak Tryz.prog 189 #[] h (fun v h'=>v= .bool true/\Ext h h'):=
 XB (zAy Pt.ok _) l4 (f:=189) (fi:=Pt.ff189) (by kernel_rfl) (by decide+kernel) (.last b4) h
noncomputable def t5:List (Nat×Ans):=[(189,XR memT),(190,XR memT)]
theorem l5:fE Tryz.prog (U4 Pt.pr (GN t5)):=Zc Pt.lb t5 (List.forall_mem_cons.2 ⟨zBG (YL works189),List.forall_mem_cons.2 ⟨zBG (YL W05.works190),fun _ h=>(List.not_mem_nil h).elim⟩⟩)
theorem b5:lastB (U4 Pt.pr (GN t5)) 1000 ⟨gV Pt.ff137.nt,Pt.ff137.nt⟩ Pt.ff137.res (xX Pt.ff137.body) (.leaf fB) [] s0=true:=by kernel_rfl
theorem works137 (h:Eng.Heap):ak Tryz.prog 137 #[] h (fun v h'=>v= .bool true/\Ext h h'):=
 XB (zAy Pt.ok _) l5 (f:=137) (fi:=Pt.ff137) (by kernel_rfl) (by decide+kernel) (.last b5) h
noncomputable def t6:List (Nat×Ans):=[(137,XR memT),(138,XR memT)]
theorem l6:fE Tryz.prog (U4 Pt.pr (GN t6)):=Zc Pt.lb t6 (List.forall_mem_cons.2 ⟨zBG (YL works137),List.forall_mem_cons.2 ⟨zBG (YL W06.works138),fun _ h=>(List.not_mem_nil h).elim⟩⟩)
theorem b6:lastB (U4 Pt.pr (GN t6)) 1000 ⟨gV Pt.ff82.nt,Pt.ff82.nt⟩ Pt.ff82.res (xX Pt.ff82.body) (.leaf fB) [] s0=true:=by kernel_rfl
theorem works82 (h:Eng.Heap):ak Tryz.prog 82 #[] h (fun v h'=>v= .bool true/\Ext h h'):=
 XB (zAy Pt.ok _) l6 (f:=82) (fi:=Pt.ff82) (by kernel_rfl) (by decide+kernel) (.last b6) h
noncomputable def t7:List (Nat×Ans):=[(82,XR memT),(83,XR memT)]
theorem l7:fE Tryz.prog (U4 Pt.pr (GN t7)):=Zc Pt.lb t7 (List.forall_mem_cons.2 ⟨zBG (YL works82),List.forall_mem_cons.2 ⟨zBG (YL W07.works83),fun _ h=>(List.not_mem_nil h).elim⟩⟩)
theorem b7:lastB (U4 Pt.pr (GN t7)) 1000 ⟨gV Pt.ff46.nt,Pt.ff46.nt⟩ Pt.ff46.res (xX Pt.ff46.body) (.leaf fB) [] s0=true:=by kernel_rfl
theorem works46 (h:Eng.Heap):ak Tryz.prog 46 #[] h (fun v h'=>v= .bool true/\Ext h h'):=
 XB (zAy Pt.ok _) l7 (f:=46) (fi:=Pt.ff46) (by kernel_rfl) (by decide+kernel) (.last b7) h
noncomputable def t8:List (Nat×Ans):=[(46,XR memT),(47,XR memT)]
theorem l8:fE Tryz.prog (U4 Pt.pr (GN t8)):=Zc Pt.lb t8 (List.forall_mem_cons.2 ⟨zBG (YL works46),List.forall_mem_cons.2 ⟨zBG (YL W08.works47),fun _ h=>(List.not_mem_nil h).elim⟩⟩)
theorem b8:lastB (U4 Pt.pr (GN t8)) 1000 ⟨gV Pt.ff19.nt,Pt.ff19.nt⟩ Pt.ff19.res (xX Pt.ff19.body) (.leaf fB) [] s0=true:=by kernel_rfl
theorem works19 (h:Eng.Heap):ak Tryz.prog 19 #[] h (fun v h'=>v= .bool true/\Ext h h'):=
 XB (zAy Pt.ok _) l8 (f:=19) (fi:=Pt.ff19) (by kernel_rfl) (by decide+kernel) (.last b8) h
noncomputable def t9:List (Nat×Ans):=[(19,XR memT),(20,XR memT)]
theorem l9:fE Tryz.prog (U4 Pt.pr (GN t9)):=Zc Pt.lb t9 (List.forall_mem_cons.2 ⟨zBG (YL works19),List.forall_mem_cons.2 ⟨zBG (YL W09.works20),fun _ h=>(List.not_mem_nil h).elim⟩⟩)
theorem b9:lastB (U4 Pt.pr (GN t9)) 1000 ⟨gV Pt.ff5.nt,Pt.ff5.nt⟩ Pt.ff5.res (xX Pt.ff5.body) (.leaf fB) [] s0=true:=by kernel_rfl
theorem works5 (h:Eng.Heap):ak Tryz.prog 5 #[] h (fun v h'=>v= .bool true/\Ext h h'):=
 XB (zAy Pt.ok _) l9 (f:=5) (fi:=Pt.ff5) (by kernel_rfl) (by decide+kernel) (.last b9) h
end Go.Proofs.YtljjlhbbcjjmlaaGreatDoor.Ws
