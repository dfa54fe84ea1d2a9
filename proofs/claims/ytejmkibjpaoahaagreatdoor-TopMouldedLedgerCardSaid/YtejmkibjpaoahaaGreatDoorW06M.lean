/- Lemmas. No condition. -/
import Derived.Test.YtejmkibjpaoahaaGreatDoorOk
import Derived.Test.YtejmkibjpaoahaaGreatDoorRunM
open List renaming forall_mem_cons→af,not_mem_nil→bK
namespace Go.Proofs.YtejmkibjpaoahaaGreatDoor.W06M
open Go Go.Proofs Go.Run Go.Eng
set_option maxRecDepth 100000
noncomputable def q0:Nat×VO:=(10010,.row [ij 0,ij 2] 3 true)
noncomputable def q1:Nat×VO:=(10007,.row [.own 10008 1,.own 10009 1] 29 true)
noncomputable def q2:Nat×VO:=(10008,.row [ij 0] 3 true)
noncomputable def q3:Nat×VO:=(10009,.row [ij 1] 3 true)
noncomputable def q4:Nat×VO:=(10009,.row [.own 10010 2,.own 10011 1] 29 true)
noncomputable def q5:Nat×VO:=(10011,.row [ij 1] 3 true)
noncomputable def q6:Nat×VO:=(10009,.row [.own 10010 2,.own 10011 2,.own 10012 2] 29 true)
noncomputable def q7:Nat×VO:=(10011,.row [ij 1,ij 2] 3 true)
noncomputable def q8:Nat×VO:=(10012,.row [ij 1,ij 3] 3 true)
noncomputable def q9:Nat×VO:=(10011,.row [.own 10012 2,.own 10013 2] 29 true)
noncomputable def q10:Nat×VO:=(10012,.row [ij 0,ij 2] 3 true)
noncomputable def q11:Nat×VO:=(10013,.row [ij 1,ij 3] 3 true)
noncomputable def x541_0:Mr:=⟨[.own 975 2],[(975,.row [.own 967 1,.own 973 1] 29 true),(973,.row [ij 1] 3 true),(967,.row [ij 0] 3 true)],.own 10007 2,[q1,q2,q3]⟩
theorem e541_0:mrB Pt.pr 1000000 541 10000 x541_0=true:=by kernel_rfl
noncomputable def x541_1:Mr:=⟨[.own 1002 3],[(1002,.row [.own 987 2,.own 995 2,.own 978 1] 29 true),(978,.row [ij 1] 3 true),(995,.row [ij 0,ij 2] 3 true),(987,.row [ij 0,ij 1] 3 true)],.own 10009 2,[q4,q0,q5]⟩
theorem e541_1:mrB Pt.pr 1000000 541 10000 x541_1=true:=by kernel_rfl
noncomputable def x541_2:Mr:=⟨[.own 1029 3],[(1029,.row [.own 1004 2,.own 1019 2,.own 1027 2] 29 true),(1027,.row [ij 1,ij 3] 3 true),(1019,.row [ij 1,ij 2] 3 true),(1004,.row [ij 0,ij 2] 3 true)],.own 10009 3,[q6,q0,q7,q8]⟩
theorem e541_2:mrB Pt.pr 1000000 541 10000 x541_2=true:=by kernel_rfl
noncomputable def x541_3:Mr:=⟨[.own 1066 4],[(1066,.row [.own 1031 2,.own 1049 3,.own 1059 3,.own 1033 2] 29 true),(1033,.row [ij 1,ij 3] 3 true),(1059,.row [ij 1,ij 2,ij 3] 3 true),(1049,.row [ij 0,ij 1,ij 2] 3 true),(1031,.row [ij 0,ij 2] 3 true)],.own 10011 2,[q9,q10,q11]⟩
theorem e541_3:mrB Pt.pr 1000000 541 10000 x541_3=true:=by kernel_rfl
noncomputable def x541_4:Mr:=⟨[.own 1151 2],[(1151,.row [.own 1143 1,.own 1149 1] 29 true),(1149,.row [ij 1] 3 true),(1143,.row [ij 0] 3 true)],.own 10007 2,[q1,q2,q3]⟩
theorem e541_4:mrB Pt.pr 1000000 541 10000 x541_4=true:=by kernel_rfl
noncomputable def x541_5:Mr:=⟨[.own 1178 3],[(1178,.row [.own 1163 2,.own 1171 2,.own 1154 1] 29 true),(1154,.row [ij 1] 3 true),(1171,.row [ij 0,ij 2] 3 true),(1163,.row [ij 0,ij 1] 3 true)],.own 10009 2,[q4,q0,q5]⟩
theorem e541_5:mrB Pt.pr 1000000 541 10000 x541_5=true:=by kernel_rfl
noncomputable def x541_6:Mr:=⟨[.own 1205 3],[(1205,.row [.own 1180 2,.own 1195 2,.own 1203 2] 29 true),(1203,.row [ij 1,ij 3] 3 true),(1195,.row [ij 1,ij 2] 3 true),(1180,.row [ij 0,ij 2] 3 true)],.own 10009 3,[q6,q0,q7,q8]⟩
theorem e541_6:mrB Pt.pr 1000000 541 10000 x541_6=true:=by kernel_rfl
noncomputable def x541_7:Mr:=⟨[.own 1242 4],[(1242,.row [.own 1207 2,.own 1225 3,.own 1235 3,.own 1209 2] 29 true),(1209,.row [ij 1,ij 3] 3 true),(1235,.row [ij 1,ij 2,ij 3] 3 true),(1225,.row [ij 0,ij 1,ij 2] 3 true),(1207,.row [ij 0,ij 2] 3 true)],.own 10011 2,[q9,q10,q11]⟩
theorem e541_7:mrB Pt.pr 1000000 541 10000 x541_7=true:=by kernel_rfl
noncomputable def x541_8:Mr:=⟨[.own 1330 2],[(1330,.row [.own 1322 1,.own 1328 1] 29 true),(1328,.row [ij 1] 3 true),(1322,.row [ij 0] 3 true)],.own 10007 2,[q1,q2,q3]⟩
theorem e541_8:mrB Pt.pr 1000000 541 10000 x541_8=true:=by kernel_rfl
noncomputable def x541_9:Mr:=⟨[.own 1357 3],[(1357,.row [.own 1342 2,.own 1350 2,.own 1333 1] 29 true),(1333,.row [ij 1] 3 true),(1350,.row [ij 0,ij 2] 3 true),(1342,.row [ij 0,ij 1] 3 true)],.own 10009 2,[q4,q0,q5]⟩
theorem e541_9:mrB Pt.pr 1000000 541 10000 x541_9=true:=by kernel_rfl
noncomputable def x541_10:Mr:=⟨[.own 1384 3],[(1384,.row [.own 1359 2,.own 1374 2,.own 1382 2] 29 true),(1382,.row [ij 1,ij 3] 3 true),(1374,.row [ij 1,ij 2] 3 true),(1359,.row [ij 0,ij 2] 3 true)],.own 10009 3,[q6,q0,q7,q8]⟩
theorem e541_10:mrB Pt.pr 1000000 541 10000 x541_10=true:=by kernel_rfl
noncomputable def x541_11:Mr:=⟨[.own 1421 4],[(1421,.row [.own 1386 2,.own 1404 3,.own 1414 3,.own 1388 2] 29 true),(1388,.row [ij 1,ij 3] 3 true),(1414,.row [ij 1,ij 2,ij 3] 3 true),(1404,.row [ij 0,ij 1,ij 2] 3 true),(1386,.row [ij 0,ij 2] 3 true)],.own 10011 2,[q9,q10,q11]⟩
theorem e541_11:mrB Pt.pr 1000000 541 10000 x541_11=true:=by kernel_rfl
noncomputable def x541_12:Mr:=⟨[.own 1518 2],[(1518,.row [.own 1510 1,.own 1516 1] 29 true),(1516,.row [ij 1] 3 true),(1510,.row [ij 0] 3 true)],.own 10007 2,[q1,q2,q3]⟩
theorem e541_12:mrB Pt.pr 1000000 541 10000 x541_12=true:=by kernel_rfl
noncomputable def x541_13:Mr:=⟨[.own 1545 3],[(1545,.row [.own 1530 2,.own 1538 2,.own 1521 1] 29 true),(1521,.row [ij 1] 3 true),(1538,.row [ij 0,ij 2] 3 true),(1530,.row [ij 0,ij 1] 3 true)],.own 10009 2,[q4,q0,q5]⟩
theorem e541_13:mrB Pt.pr 1000000 541 10000 x541_13=true:=by kernel_rfl
noncomputable def x541_14:Mr:=⟨[.own 1572 3],[(1572,.row [.own 1547 2,.own 1562 2,.own 1570 2] 29 true),(1570,.row [ij 1,ij 3] 3 true),(1562,.row [ij 1,ij 2] 3 true),(1547,.row [ij 0,ij 2] 3 true)],.own 10009 3,[q6,q0,q7,q8]⟩
theorem e541_14:mrB Pt.pr 1000000 541 10000 x541_14=true:=by kernel_rfl
noncomputable def x541_15:Mr:=⟨[.own 1609 4],[(1609,.row [.own 1574 2,.own 1592 3,.own 1602 3,.own 1576 2] 29 true),(1576,.row [ij 1,ij 3] 3 true),(1602,.row [ij 1,ij 2,ij 3] 3 true),(1592,.row [ij 0,ij 1,ij 2] 3 true),(1574,.row [ij 0,ij 2] 3 true)],.own 10011 2,[q9,q10,q11]⟩
theorem e541_15:mrB Pt.pr 1000000 541 10000 x541_15=true:=by kernel_rfl
noncomputable def x541_16:Mr:=⟨[.own 1842 2],[(1842,.row [.own 1834 1,.own 1840 1] 29 true),(1840,.row [ij 1] 3 true),(1834,.row [ij 0] 3 true)],.own 10007 2,[q1,q2,q3]⟩
theorem e541_16:mrB Pt.pr 1000000 541 10000 x541_16=true:=by kernel_rfl
noncomputable def x541_17:Mr:=⟨[.own 1869 3],[(1869,.row [.own 1854 2,.own 1862 2,.own 1845 1] 29 true),(1845,.row [ij 1] 3 true),(1862,.row [ij 0,ij 2] 3 true),(1854,.row [ij 0,ij 1] 3 true)],.own 10009 2,[q4,q0,q5]⟩
theorem e541_17:mrB Pt.pr 1000000 541 10000 x541_17=true:=by kernel_rfl
noncomputable def x541_18:Mr:=⟨[.own 1896 3],[(1896,.row [.own 1871 2,.own 1886 2,.own 1894 2] 29 true),(1894,.row [ij 1,ij 3] 3 true),(1886,.row [ij 1,ij 2] 3 true),(1871,.row [ij 0,ij 2] 3 true)],.own 10009 3,[q6,q0,q7,q8]⟩
theorem e541_18:mrB Pt.pr 1000000 541 10000 x541_18=true:=by kernel_rfl
noncomputable def x541_19:Mr:=⟨[.own 1933 4],[(1933,.row [.own 1898 2,.own 1916 3,.own 1926 3,.own 1900 2] 29 true),(1900,.row [ij 1,ij 3] 3 true),(1926,.row [ij 1,ij 2,ij 3] 3 true),(1916,.row [ij 0,ij 1,ij 2] 3 true),(1898,.row [ij 0,ij 2] 3 true)],.own 10011 2,[q9,q10,q11]⟩
theorem e541_19:mrB Pt.pr 1000000 541 10000 x541_19=true:=by kernel_rfl
noncomputable def M541:List Mr:=[x541_0,x541_1,x541_2,x541_3,x541_4,x541_5,x541_6,x541_7,x541_8,x541_9,x541_10,x541_11,x541_12,x541_13,x541_14,x541_15,x541_16,x541_17,x541_18,x541_19]
theorem e541:∀x∈M541,mrB Pt.pr 1000000 541 10000 x=true:=af.2 ⟨e541_0,af.2 ⟨e541_1,af.2 ⟨e541_2,af.2 ⟨e541_3,af.2 ⟨e541_4,af.2 ⟨e541_5,af.2 ⟨e541_6,af.2 ⟨e541_7,af.2 ⟨e541_8,af.2 ⟨e541_9,af.2 ⟨e541_10,af.2 ⟨e541_11,af.2 ⟨e541_12,af.2 ⟨e541_13,af.2 ⟨e541_14,af.2 ⟨e541_15,af.2 ⟨e541_16,af.2 ⟨e541_17,af.2 ⟨e541_18,af.2 ⟨e541_19,fun _ h=>(bK h).elim⟩⟩⟩⟩⟩⟩⟩⟩⟩⟩⟩⟩⟩⟩⟩⟩⟩⟩⟩⟩
noncomputable def tab:List (Nat×Ans):=[(541,V7 10000 M541)]
noncomputable def p:Pr:=U4 Pt.pr (GN tab)
theorem ok:Ok Tryz.prog p:=zAy Pt.ok _
theorem lb:fE Tryz.prog p:=Zc Pt.lb tab (af.2 ⟨YM Pt.ok Pt.lb _ e541,fun _ h=>(bK h).elim⟩)
end Go.Proofs.YtejmkibjpaoahaaGreatDoor.W06M
