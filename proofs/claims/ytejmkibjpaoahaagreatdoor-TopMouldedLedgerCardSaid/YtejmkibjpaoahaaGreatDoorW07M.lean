/- Lemmas. No condition. -/
import Derived.Test.YtejmkibjpaoahaaGreatDoorOk
import Derived.Test.YtejmkibjpaoahaaGreatDoorW07Ma
import Derived.Test.YtejmkibjpaoahaaGreatDoorW07Mb
import Derived.Test.YtejmkibjpaoahaaGreatDoorW07Mc
import Derived.Test.YtejmkibjpaoahaaGreatDoorW07Md
import Derived.Test.YtejmkibjpaoahaaGreatDoorW07Me
open List renaming forall_mem_cons→af,not_mem_nil→bK
namespace Go.Proofs.YtejmkibjpaoahaaGreatDoor.W07M
open Go Go.Proofs Go.Run Go.Eng
set_option maxRecDepth 100000
noncomputable def M547:List Mr:=[x547_0,x547_1,x547_2,x547_3,x547_4,x547_5,x547_6,x547_7,x547_8,x547_9,x547_10,x547_11,x547_12,x547_13,x547_14,x547_15,x547_16,x547_17,x547_18,x547_19,x547_20,x547_21,x547_22,x547_23,x547_24,x547_25,x547_26,x547_27,x547_28,x547_29,x547_30,x547_31,x547_32,x547_33,x547_34,x547_35,x547_36,x547_37,x547_38,x547_39,x547_40,x547_41,x547_42,x547_43,x547_44,x547_45,x547_46,x547_47,x547_48,x547_49,x547_50,x547_51,x547_52,x547_53,x547_54,x547_55,x547_56,x547_57,x547_58,x547_59,x547_60,x547_61,x547_62,x547_63,x547_64,x547_65,x547_66,x547_67,x547_68,x547_69,x547_70,x547_71,x547_72,x547_73,x547_74,x547_75,x547_76,x547_77,x547_78,x547_79,x547_80,x547_81,x547_82]
theorem e547:∀x∈M547,mrB Pt.pr 1000000 547 10000 x=true:=af.2 ⟨e547_0,af.2 ⟨e547_1,af.2 ⟨e547_2,af.2 ⟨e547_3,af.2 ⟨e547_4,af.2 ⟨e547_5,af.2 ⟨e547_6,af.2 ⟨e547_7,af.2 ⟨e547_8,af.2 ⟨e547_9,af.2 ⟨e547_10,af.2 ⟨e547_11,af.2 ⟨e547_12,af.2 ⟨e547_13,af.2 ⟨e547_14,af.2 ⟨e547_15,af.2 ⟨e547_16,af.2 ⟨e547_17,af.2 ⟨e547_18,af.2 ⟨e547_19,af.2 ⟨e547_20,af.2 ⟨e547_21,af.2 ⟨e547_22,af.2 ⟨e547_23,af.2 ⟨e547_24,af.2 ⟨e547_25,af.2 ⟨e547_26,af.2 ⟨e547_27,af.2 ⟨e547_28,af.2 ⟨e547_29,af.2 ⟨e547_30,af.2 ⟨e547_31,af.2 ⟨e547_32,af.2 ⟨e547_33,af.2 ⟨e547_34,af.2 ⟨e547_35,af.2 ⟨e547_36,af.2 ⟨e547_37,af.2 ⟨e547_38,af.2 ⟨e547_39,af.2 ⟨e547_40,af.2 ⟨e547_41,af.2 ⟨e547_42,af.2 ⟨e547_43,af.2 ⟨e547_44,af.2 ⟨e547_45,af.2 ⟨e547_46,af.2 ⟨e547_47,af.2 ⟨e547_48,af.2 ⟨e547_49,af.2 ⟨e547_50,af.2 ⟨e547_51,af.2 ⟨e547_52,af.2 ⟨e547_53,af.2 ⟨e547_54,af.2 ⟨e547_55,af.2 ⟨e547_56,af.2 ⟨e547_57,af.2 ⟨e547_58,af.2 ⟨e547_59,af.2 ⟨e547_60,af.2 ⟨e547_61,af.2 ⟨e547_62,af.2 ⟨e547_63,af.2 ⟨e547_64,af.2 ⟨e547_65,af.2 ⟨e547_66,af.2 ⟨e547_67,af.2 ⟨e547_68,af.2 ⟨e547_69,af.2 ⟨e547_70,af.2 ⟨e547_71,af.2 ⟨e547_72,af.2 ⟨e547_73,af.2 ⟨e547_74,af.2 ⟨e547_75,af.2 ⟨e547_76,af.2 ⟨e547_77,af.2 ⟨e547_78,af.2 ⟨e547_79,af.2 ⟨e547_80,af.2 ⟨e547_81,af.2 ⟨e547_82,fun _ h=>(bK h).elim⟩⟩⟩⟩⟩⟩⟩⟩⟩⟩⟩⟩⟩⟩⟩⟩⟩⟩⟩⟩⟩⟩⟩⟩⟩⟩⟩⟩⟩⟩⟩⟩⟩⟩⟩⟩⟩⟩⟩⟩⟩⟩⟩⟩⟩⟩⟩⟩⟩⟩⟩⟩⟩⟩⟩⟩⟩⟩⟩⟩⟩⟩⟩⟩⟩⟩⟩⟩⟩⟩⟩⟩⟩⟩⟩⟩⟩⟩⟩⟩⟩⟩⟩
noncomputable def M551:List Mr:=[x551_0,x551_1,x551_2,x551_3,x551_4,x551_5,x551_6,x551_7,x551_8,x551_9,x551_10,x551_11,x551_12,x551_13,x551_14,x551_15,x551_16,x551_17,x551_18,x551_19,x551_20,x551_21,x551_22]
theorem e551:∀x∈M551,mrB Pt.pr 1000000 551 10000 x=true:=af.2 ⟨e551_0,af.2 ⟨e551_1,af.2 ⟨e551_2,af.2 ⟨e551_3,af.2 ⟨e551_4,af.2 ⟨e551_5,af.2 ⟨e551_6,af.2 ⟨e551_7,af.2 ⟨e551_8,af.2 ⟨e551_9,af.2 ⟨e551_10,af.2 ⟨e551_11,af.2 ⟨e551_12,af.2 ⟨e551_13,af.2 ⟨e551_14,af.2 ⟨e551_15,af.2 ⟨e551_16,af.2 ⟨e551_17,af.2 ⟨e551_18,af.2 ⟨e551_19,af.2 ⟨e551_20,af.2 ⟨e551_21,af.2 ⟨e551_22,fun _ h=>(bK h).elim⟩⟩⟩⟩⟩⟩⟩⟩⟩⟩⟩⟩⟩⟩⟩⟩⟩⟩⟩⟩⟩⟩⟩
noncomputable def M552:List Mr:=[x552_0,x552_1,x552_2,x552_3,x552_4]
theorem e552:∀x∈M552,mrB Pt.pr 1000000 552 10000 x=true:=af.2 ⟨e552_0,af.2 ⟨e552_1,af.2 ⟨e552_2,af.2 ⟨e552_3,af.2 ⟨e552_4,fun _ h=>(bK h).elim⟩⟩⟩⟩⟩
noncomputable def tab:List (Nat×Ans):=[(547,V7 10000 M547),(551,V7 10000 M551),(552,V7 10000 M552)]
noncomputable def p:Pr:=U4 Pt.pr (GN tab)
theorem ok:Ok Tryz.prog p:=zAy Pt.ok _
theorem lb:fE Tryz.prog p:=Zc Pt.lb tab (af.2 ⟨YM Pt.ok Pt.lb _ e547,af.2 ⟨YM Pt.ok Pt.lb _ e551,af.2 ⟨YM Pt.ok Pt.lb _ e552,fun _ h=>(bK h).elim⟩⟩⟩)
end Go.Proofs.YtejmkibjpaoahaaGreatDoor.W07M
