/- Lemmas. No condition. -/
import Derived.Test.YtejmkibjpaoahaaGreatDoorPr
import Derived.Test.YtejmkibjpaoahaaGreatDoorRunM
namespace Go.Proofs.YtejmkibjpaoahaaGreatDoor.W07M
open Go Go.Proofs Go.Run Go.Eng
set_option maxRecDepth 100000
noncomputable def q0:Nat×VO:=(1,.row (il [2,3,4,5,6,7,7,7,0,0,1,1,2,3,4,4]) 3 false)
noncomputable def q1:Nat×VO:=(993,.row [.slice 1 0 8 16,.slice 1 8 8 8,ij 2,ij 5] 613 false)
noncomputable def q2:Nat×VO:=(866,.row [.slice 1 0 8 16,.slice 1 8 8 8,ij 2,ij 5] 613 false)
noncomputable def x547_0:Mr:=⟨[.ptr 866 0,.agg [ij 3,ij 3],ij 1],[q2,q0],.tup [.str [99],.bool true],[]⟩
theorem e547_0:mrB Pt.pr 1000000 547 10000 x547_0=true:=by kernel_rfl
noncomputable def x547_1:Mr:=⟨[.ptr 866 0,.agg [ij 3,ij 3],ij 2],[q2,q0],.tup [.str [99,99],.bool true],[]⟩
theorem e547_1:mrB Pt.pr 1000000 547 10000 x547_1=true:=by kernel_rfl
noncomputable def x547_2:Mr:=⟨[.ptr 866 0,.agg [ij 3,ij 3],ij 3],[q2,q0],.tup [.str [99,99,119,99],.bool true],[]⟩
theorem e547_2:mrB Pt.pr 1000000 547 10000 x547_2=true:=by kernel_rfl
noncomputable def x547_3:Mr:=⟨[.ptr 866 0,.agg [ij 3,ij 3],ij 4],[q2,q0],.tup [.str [99,99,119,99,119,99],.bool true],[]⟩
theorem e547_3:mrB Pt.pr 1000000 547 10000 x547_3=true:=by kernel_rfl
noncomputable def x547_4:Mr:=⟨[.ptr 866 0,.agg [ij 3,ij 3],ij 5],[q2,q0],.tup [.str [99,99,119,99,119,99,119,99],.bool true],[]⟩
theorem e547_4:mrB Pt.pr 1000000 547 10000 x547_4=true:=by kernel_rfl
noncomputable def x547_5:Mr:=⟨[.ptr 866 0,.agg [ij 3,ij 3],ij 6],[q2,q0],.tup [.str [99,99,119,99,119,99,119,99,119,99],.bool true],[]⟩
theorem e547_5:mrB Pt.pr 1000000 547 10000 x547_5=true:=by kernel_rfl
noncomputable def x547_6:Mr:=⟨[.ptr 866 0,.agg [ij 3,ij 3],ij 7],[q2,q0],.tup [.str [99,99,119,99,119,99,119,99,119,99,119,99],.bool true],[]⟩
theorem e547_6:mrB Pt.pr 1000000 547 10000 x547_6=true:=by kernel_rfl
noncomputable def x547_7:Mr:=⟨[.ptr 866 0,.agg [ij 3,ij 3],ij 8],[q2,q0],.tup [.str [99,99,119,99,119,99,119,99,119,99,119,99,119,99],.bool true],[]⟩
theorem e547_7:mrB Pt.pr 1000000 547 10000 x547_7=true:=by kernel_rfl
noncomputable def x547_8:Mr:=⟨[.ptr 866 0,.agg [ij 3,ij 3],ij 9],[q2,q0],.tup [.str [99,99,119,99,119,99,119,99,119,99,119,99,119,99,119,99],.bool true],[]⟩
theorem e547_8:mrB Pt.pr 1000000 547 10000 x547_8=true:=by kernel_rfl
noncomputable def x547_9:Mr:=⟨[.ptr 993 0,.agg [ij 0,ij 0],ij 1],[q1,q0],.tup [.str [],.bool false],[]⟩
theorem e547_9:mrB Pt.pr 1000000 547 10000 x547_9=true:=by kernel_rfl
noncomputable def x547_10:Mr:=⟨[.ptr 993 0,.agg [ij 1,ij 1],ij 1],[q1,q0],.tup [.str [],.bool false],[]⟩
theorem e547_10:mrB Pt.pr 1000000 547 10000 x547_10=true:=by kernel_rfl
noncomputable def x547_11:Mr:=⟨[.ptr 993 0,.agg [ij 2,ij 2],ij 1],[q1,q0],.tup [.str [99],.bool true],[]⟩
theorem e547_11:mrB Pt.pr 1000000 547 10000 x547_11=true:=by kernel_rfl
noncomputable def x547_12:Mr:=⟨[.ptr 993 0,.agg [ij 2,ij 2],ij 2],[q1,q0],.tup [.str [99,99],.bool true],[]⟩
theorem e547_12:mrB Pt.pr 1000000 547 10000 x547_12=true:=by kernel_rfl
noncomputable def x547_13:Mr:=⟨[.ptr 993 0,.agg [ij 2,ij 2],ij 3],[q1,q0],.tup [.str [99,99,119,99],.bool true],[]⟩
theorem e547_13:mrB Pt.pr 1000000 547 10000 x547_13=true:=by kernel_rfl
noncomputable def x547_14:Mr:=⟨[.ptr 993 0,.agg [ij 2,ij 2],ij 4],[q1,q0],.tup [.str [99,99,119,99,119,99],.bool true],[]⟩
theorem e547_14:mrB Pt.pr 1000000 547 10000 x547_14=true:=by kernel_rfl
noncomputable def x547_15:Mr:=⟨[.ptr 993 0,.agg [ij 2,ij 2],ij 5],[q1,q0],.tup [.str [99,99,119,99,119,99,119,99],.bool true],[]⟩
theorem e547_15:mrB Pt.pr 1000000 547 10000 x547_15=true:=by kernel_rfl
noncomputable def x547_16:Mr:=⟨[.ptr 993 0,.agg [ij 2,ij 2],ij 6],[q1,q0],.tup [.str [99,99,119,99,119,99,119,99,119,99],.bool true],[]⟩
theorem e547_16:mrB Pt.pr 1000000 547 10000 x547_16=true:=by kernel_rfl
noncomputable def x547_17:Mr:=⟨[.ptr 993 0,.agg [ij 2,ij 2],ij 7],[q1,q0],.tup [.str [99,99,119,99,119,99,119,99,119,99,119,99],.bool true],[]⟩
theorem e547_17:mrB Pt.pr 1000000 547 10000 x547_17=true:=by kernel_rfl
noncomputable def x547_18:Mr:=⟨[.ptr 993 0,.agg [ij 2,ij 2],ij 8],[q1,q0],.tup [.str [99,99,119,99,119,99,119,99,119,99,119,99,119,99],.bool true],[]⟩
theorem e547_18:mrB Pt.pr 1000000 547 10000 x547_18=true:=by kernel_rfl
noncomputable def x547_19:Mr:=⟨[.ptr 993 0,.agg [ij 2,ij 2],ij 9],[q1,q0],.tup [.str [99,99,119,99,119,99,119,99,119,99,119,99,119,99,119,99],.bool true],[]⟩
theorem e547_19:mrB Pt.pr 1000000 547 10000 x547_19=true:=by kernel_rfl
noncomputable def x547_20:Mr:=⟨[.ptr 993 0,.agg [ij 3,ij 3],ij 1],[q1,q0],.tup [.str [99],.bool true],[]⟩
theorem e547_20:mrB Pt.pr 1000000 547 10000 x547_20=true:=by kernel_rfl
noncomputable def x547_21:Mr:=⟨[.ptr 993 0,.agg [ij 3,ij 3],ij 2],[q1,q0],.tup [.str [99,99],.bool true],[]⟩
theorem e547_21:mrB Pt.pr 1000000 547 10000 x547_21=true:=by kernel_rfl
noncomputable def x547_22:Mr:=⟨[.ptr 993 0,.agg [ij 3,ij 3],ij 3],[q1,q0],.tup [.str [99,99,119,99],.bool true],[]⟩
theorem e547_22:mrB Pt.pr 1000000 547 10000 x547_22=true:=by kernel_rfl
noncomputable def x547_23:Mr:=⟨[.ptr 993 0,.agg [ij 3,ij 3],ij 4],[q1,q0],.tup [.str [99,99,119,99,119,99],.bool true],[]⟩
theorem e547_23:mrB Pt.pr 1000000 547 10000 x547_23=true:=by kernel_rfl
noncomputable def x547_24:Mr:=⟨[.ptr 993 0,.agg [ij 3,ij 3],ij 5],[q1,q0],.tup [.str [99,99,119,99,119,99,119,99],.bool true],[]⟩
theorem e547_24:mrB Pt.pr 1000000 547 10000 x547_24=true:=by kernel_rfl
end Go.Proofs.YtejmkibjpaoahaaGreatDoor.W07M
