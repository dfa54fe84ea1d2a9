/- Lemmas. No condition. -/
import Derived.Test.YtejmkibjpaoahaaGreatDoorW01
import Derived.Test.YtejmkibjpaoahaaGreatDoorW02
import Derived.Test.YtejmkibjpaoahaaGreatDoorW03
import Derived.Test.YtejmkibjpaoahaaGreatDoorW04
import Derived.Test.YtejmkibjpaoahaaGreatDoorW05
import Derived.Test.YtejmkibjpaoahaaGreatDoorW06
import Derived.Test.YtejmkibjpaoahaaGreatDoorW07
import Derived.Test.YtejmkibjpaoahaaGreatDoorW08
import Derived.Test.YtejmkibjpaoahaaGreatDoorW09
import Derived.Test.YtejmkibjpaoahaaGreatDoorW10
import Derived.Test.YtejmkibjpaoahaaGreatDoorW11
import Derived.Test.YtejmkibjpaoahaaGreatDoorW12
open List renaming forall_mem_cons→af,not_mem_nil→bK
open Go.Proofs.Tryz renaming prog→bI
namespace Go.Proofs.YtejmkibjpaoahaaGreatDoor.Ws
open Go Go.Proofs Go.Run Go.Eng
set_option maxRecDepth 100000
noncomputable def t3:List (Nat×Ans):=[(566,XR memT),(567,XR memT),(568,XR memT)]
theorem l3:fE bI (U4 Pt.pr (GN t3)):=Zc Pt.lb t3 (af.2 ⟨zBG (YL W01.works566),af.2 ⟨zBG (YL W02.works567),af.2 ⟨zBG (YL W03.works568),fun _ h=>(bK h).elim⟩⟩⟩)
theorem b3:lastB (U4 Pt.pr (GN t3)) 1000 ⟨gV Pt.ff500.nt,Pt.ff500.nt⟩ Pt.ff500.res (xX Pt.ff500.body) (.leaf fB) [] s0=true:=by kernel_rfl
theorem works500 (h:Eng.Heap):ak bI 500 #[] h (fun v h'=>v= .bool true/\Ext h h'):=
 XB (zAy Pt.ok _) l3 (f:=500) (fi:=Pt.ff500) (by kernel_rfl) (by decide+kernel) (.last b3) h
noncomputable def t4:List (Nat×Ans):=[(500,XR memT),(501,XR memT)]
theorem l4:fE bI (U4 Pt.pr (GN t4)):=Zc Pt.lb t4 (af.2 ⟨zBG (YL works500),af.2 ⟨zBG (YL W04.works501),fun _ h=>(bK h).elim⟩⟩)
theorem b4:lastB (U4 Pt.pr (GN t4)) 1000 ⟨gV Pt.ff443.nt,Pt.ff443.nt⟩ Pt.ff443.res (xX Pt.ff443.body) (.leaf fB) [] s0=true:=by kernel_rfl
theorem works443 (h:Eng.Heap):ak bI 443 #[] h (fun v h'=>v= .bool true/\Ext h h'):=
 XB (zAy Pt.ok _) l4 (f:=443) (fi:=Pt.ff443) (by kernel_rfl) (by decide+kernel) (.last b4) h
noncomputable def t5:List (Nat×Ans):=[(443,XR memT),(444,XR memT)]
theorem l5:fE bI (U4 Pt.pr (GN t5)):=Zc Pt.lb t5 (af.2 ⟨zBG (YL works443),af.2 ⟨zBG (YL W05.works444),fun _ h=>(bK h).elim⟩⟩)
theorem b5:lastB (U4 Pt.pr (GN t5)) 1000 ⟨gV Pt.ff391.nt,Pt.ff391.nt⟩ Pt.ff391.res (xX Pt.ff391.body) (.leaf fB) [] s0=true:=by kernel_rfl
theorem works391 (h:Eng.Heap):ak bI 391 #[] h (fun v h'=>v= .bool true/\Ext h h'):=
 XB (zAy Pt.ok _) l5 (f:=391) (fi:=Pt.ff391) (by kernel_rfl) (by decide+kernel) (.last b5) h
noncomputable def t6:List (Nat×Ans):=[(391,XR memT),(392,XR memT)]
theorem l6:fE bI (U4 Pt.pr (GN t6)):=Zc Pt.lb t6 (af.2 ⟨zBG (YL works391),af.2 ⟨zBG (YL W06.works392),fun _ h=>(bK h).elim⟩⟩)
theorem b6:lastB (U4 Pt.pr (GN t6)) 1000 ⟨gV Pt.ff334.nt,Pt.ff334.nt⟩ Pt.ff334.res (xX Pt.ff334.body) (.leaf fB) [] s0=true:=by kernel_rfl
theorem works334 (h:Eng.Heap):ak bI 334 #[] h (fun v h'=>v= .bool true/\Ext h h'):=
 XB (zAy Pt.ok _) l6 (f:=334) (fi:=Pt.ff334) (by kernel_rfl) (by decide+kernel) (.last b6) h
noncomputable def t7:List (Nat×Ans):=[(334,XR memT),(335,XR memT)]
theorem l7:fE bI (U4 Pt.pr (GN t7)):=Zc Pt.lb t7 (af.2 ⟨zBG (YL works334),af.2 ⟨zBG (YL W07.works335),fun _ h=>(bK h).elim⟩⟩)
theorem b7:lastB (U4 Pt.pr (GN t7)) 1000 ⟨gV Pt.ff270.nt,Pt.ff270.nt⟩ Pt.ff270.res (xX Pt.ff270.body) (.leaf fB) [] s0=true:=by kernel_rfl
theorem works270 (h:Eng.Heap):ak bI 270 #[] h (fun v h'=>v= .bool true/\Ext h h'):=
 XB (zAy Pt.ok _) l7 (f:=270) (fi:=Pt.ff270) (by kernel_rfl) (by decide+kernel) (.last b7) h
noncomputable def t8:List (Nat×Ans):=[(270,XR memT),(271,XR memT)]
theorem l8:fE bI (U4 Pt.pr (GN t8)):=Zc Pt.lb t8 (af.2 ⟨zBG (YL works270),af.2 ⟨zBG (YL W08.works271),fun _ h=>(bK h).elim⟩⟩)
theorem b8:lastB (U4 Pt.pr (GN t8)) 1000 ⟨gV Pt.ff188.nt,Pt.ff188.nt⟩ Pt.ff188.res (xX Pt.ff188.body) (.leaf fB) [] s0=true:=by kernel_rfl
theorem works188 (h:Eng.Heap):ak bI 188 #[] h (fun v h'=>v= .bool true/\Ext h h'):=
 XB (zAy Pt.ok _) l8 (f:=188) (fi:=Pt.ff188) (by kernel_rfl) (by decide+kernel) (.last b8) h
noncomputable def t9:List (Nat×Ans):=[(188,XR memT),(189,XR memT)]
theorem l9:fE bI (U4 Pt.pr (GN t9)):=Zc Pt.lb t9 (af.2 ⟨zBG (YL works188),af.2 ⟨zBG (YL W09.works189),fun _ h=>(bK h).elim⟩⟩)
theorem b9:lastB (U4 Pt.pr (GN t9)) 1000 ⟨gV Pt.ff134.nt,Pt.ff134.nt⟩ Pt.ff134.res (xX Pt.ff134.body) (.leaf fB) [] s0=true:=by kernel_rfl
theorem works134 (h:Eng.Heap):ak bI 134 #[] h (fun v h'=>v= .bool true/\Ext h h'):=
 XB (zAy Pt.ok _) l9 (f:=134) (fi:=Pt.ff134) (by kernel_rfl) (by decide+kernel) (.last b9) h
noncomputable def t10:List (Nat×Ans):=[(134,XR memT),(135,XR memT)]
theorem l10:fE bI (U4 Pt.pr (GN t10)):=Zc Pt.lb t10 (af.2 ⟨zBG (YL works134),af.2 ⟨zBG (YL W10.works135),fun _ h=>(bK h).elim⟩⟩)
theorem b10:lastB (U4 Pt.pr (GN t10)) 1000 ⟨gV Pt.ff78.nt,Pt.ff78.nt⟩ Pt.ff78.res (xX Pt.ff78.body) (.leaf fB) [] s0=true:=by kernel_rfl
theorem works78 (h:Eng.Heap):ak bI 78 #[] h (fun v h'=>v= .bool true/\Ext h h'):=
 XB (zAy Pt.ok _) l10 (f:=78) (fi:=Pt.ff78) (by kernel_rfl) (by decide+kernel) (.last b10) h
noncomputable def t11:List (Nat×Ans):=[(78,XR memT),(79,XR memT)]
theorem l11:fE bI (U4 Pt.pr (GN t11)):=Zc Pt.lb t11 (af.2 ⟨zBG (YL works78),af.2 ⟨zBG (YL W11.works79),fun _ h=>(bK h).elim⟩⟩)
theorem b11:lastB (U4 Pt.pr (GN t11)) 1000 ⟨gV Pt.ff30.nt,Pt.ff30.nt⟩ Pt.ff30.res (xX Pt.ff30.body) (.leaf fB) [] s0=true:=by kernel_rfl
theorem works30 (h:Eng.Heap):ak bI 30 #[] h (fun v h'=>v= .bool true/\Ext h h'):=
 XB (zAy Pt.ok _) l11 (f:=30) (fi:=Pt.ff30) (by kernel_rfl) (by decide+kernel) (.last b11) h
noncomputable def t12:List (Nat×Ans):=[(30,XR memT),(31,XR memT)]
theorem l12:fE bI (U4 Pt.pr (GN t12)):=Zc Pt.lb t12 (af.2 ⟨zBG (YL works30),af.2 ⟨zBG (YL W12.works31),fun _ h=>(bK h).elim⟩⟩)
theorem b12:lastB (U4 Pt.pr (GN t12)) 1000 ⟨gV Pt.ff7.nt,Pt.ff7.nt⟩ Pt.ff7.res (xX Pt.ff7.body) (.leaf fB) [] s0=true:=by kernel_rfl
theorem works7 (h:Eng.Heap):ak bI 7 #[] h (fun v h'=>v= .bool true/\Ext h h'):=
 XB (zAy Pt.ok _) l12 (f:=7) (fi:=Pt.ff7) (by kernel_rfl) (by decide+kernel) (.last b12) h
end Go.Proofs.YtejmkibjpaoahaaGreatDoor.Ws
