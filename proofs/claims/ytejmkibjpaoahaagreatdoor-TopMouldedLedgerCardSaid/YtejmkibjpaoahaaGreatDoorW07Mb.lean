/- Lemmas. No condition. -/
import Derived.Test.YtejmkibjpaoahaaGreatDoorPr
import Derived.Test.YtejmkibjpaoahaaGreatDoorRunM
namespace Go.Proofs.YtejmkibjpaoahaaGreatDoor.W07M
open Go Go.Proofs Go.Run Go.Eng
set_option maxRecDepth 100000
noncomputable def qb0:Nat×VO:=(993,.row [.slice 1 0 8 16,.slice 1 8 8 8,ij 2,ij 5] 613 false)
noncomputable def qb1:Nat×VO:=(1,.row (il [2,3,4,5,6,7,7,7,0,0,1,1,2,3,4,4]) 3 false)
noncomputable def x547_25:Mr:=⟨[.ptr 993 0,.agg [ij 3,ij 3],ij 6],[qb0,qb1],.tup [.str [99,99,119,99,119,99,119,99,119,99],.bool true],[]⟩
theorem e547_25:mrB Pt.pr 1000000 547 10000 x547_25=true:=by kernel_rfl
noncomputable def x547_26:Mr:=⟨[.ptr 993 0,.agg [ij 3,ij 3],ij 7],[qb0,qb1],.tup [.str [99,99,119,99,119,99,119,99,119,99,119,99],.bool true],[]⟩
theorem e547_26:mrB Pt.pr 1000000 547 10000 x547_26=true:=by kernel_rfl
noncomputable def x547_27:Mr:=⟨[.ptr 993 0,.agg [ij 3,ij 3],ij 8],[qb0,qb1],.tup [.str [99,99,119,99,119,99,119,99,119,99,119,99,119,99],.bool true],[]⟩
theorem e547_27:mrB Pt.pr 1000000 547 10000 x547_27=true:=by kernel_rfl
noncomputable def x547_28:Mr:=⟨[.ptr 993 0,.agg [ij 3,ij 3],ij 9],[qb0,qb1],.tup [.str [99,99,119,99,119,99,119,99,119,99,119,99,119,99,119,99],.bool true],[]⟩
theorem e547_28:mrB Pt.pr 1000000 547 10000 x547_28=true:=by kernel_rfl
noncomputable def x547_29:Mr:=⟨[.ptr 993 0,.agg [ij 4,ij 4],ij 1],[qb0,qb1],.tup [.str [99],.bool true],[]⟩
theorem e547_29:mrB Pt.pr 1000000 547 10000 x547_29=true:=by kernel_rfl
noncomputable def x547_30:Mr:=⟨[.ptr 993 0,.agg [ij 4,ij 4],ij 2],[qb0,qb1],.tup [.str [99,119,99],.bool true],[]⟩
theorem e547_30:mrB Pt.pr 1000000 547 10000 x547_30=true:=by kernel_rfl
noncomputable def x547_31:Mr:=⟨[.ptr 993 0,.agg [ij 4,ij 4],ij 3],[qb0,qb1],.tup [.str [99,119,99,119,99],.bool true],[]⟩
theorem e547_31:mrB Pt.pr 1000000 547 10000 x547_31=true:=by kernel_rfl
noncomputable def x547_32:Mr:=⟨[.ptr 993 0,.agg [ij 4,ij 4],ij 4],[qb0,qb1],.tup [.str [99,119,99,119,99,119,99],.bool true],[]⟩
theorem e547_32:mrB Pt.pr 1000000 547 10000 x547_32=true:=by kernel_rfl
noncomputable def x547_33:Mr:=⟨[.ptr 993 0,.agg [ij 4,ij 4],ij 5],[qb0,qb1],.tup [.str [99,119,99,119,99,119,99,119,99],.bool true],[]⟩
theorem e547_33:mrB Pt.pr 1000000 547 10000 x547_33=true:=by kernel_rfl
noncomputable def x547_34:Mr:=⟨[.ptr 993 0,.agg [ij 4,ij 4],ij 6],[qb0,qb1],.tup [.str [99,119,99,119,99,119,99,119,99,119,99],.bool true],[]⟩
theorem e547_34:mrB Pt.pr 1000000 547 10000 x547_34=true:=by kernel_rfl
noncomputable def x547_35:Mr:=⟨[.ptr 993 0,.agg [ij 4,ij 4],ij 7],[qb0,qb1],.tup [.str [99,119,99,119,99,119,99,119,99,119,99,119,99],.bool true],[]⟩
theorem e547_35:mrB Pt.pr 1000000 547 10000 x547_35=true:=by kernel_rfl
noncomputable def x547_36:Mr:=⟨[.ptr 993 0,.agg [ij 4,ij 4],ij 8],[qb0,qb1],.tup [.str [99,119,99,119,99,119,99,119,99,119,99,119,99,119,99],.bool true],[]⟩
theorem e547_36:mrB Pt.pr 1000000 547 10000 x547_36=true:=by kernel_rfl
noncomputable def x547_37:Mr:=⟨[.ptr 993 0,.agg [ij 4,ij 4],ij 9],[qb0,qb1],.tup [.str [99,119,99,119,99,119,99,119,99,119,99,119,99,119,99,119,99],.bool true],[]⟩
theorem e547_37:mrB Pt.pr 1000000 547 10000 x547_37=true:=by kernel_rfl
noncomputable def x547_38:Mr:=⟨[.ptr 993 0,.agg [ij 5,ij 5],ij 1],[qb0,qb1],.tup [.str [99],.bool true],[]⟩
theorem e547_38:mrB Pt.pr 1000000 547 10000 x547_38=true:=by kernel_rfl
noncomputable def x547_39:Mr:=⟨[.ptr 993 0,.agg [ij 5,ij 5],ij 2],[qb0,qb1],.tup [.str [99,119,99],.bool true],[]⟩
theorem e547_39:mrB Pt.pr 1000000 547 10000 x547_39=true:=by kernel_rfl
noncomputable def x547_40:Mr:=⟨[.ptr 993 0,.agg [ij 5,ij 5],ij 3],[qb0,qb1],.tup [.str [99,119,99,119,99],.bool true],[]⟩
theorem e547_40:mrB Pt.pr 1000000 547 10000 x547_40=true:=by kernel_rfl
noncomputable def x547_41:Mr:=⟨[.ptr 993 0,.agg [ij 5,ij 5],ij 4],[qb0,qb1],.tup [.str [99,119,99,119,99,119,99],.bool true],[]⟩
theorem e547_41:mrB Pt.pr 1000000 547 10000 x547_41=true:=by kernel_rfl
noncomputable def x547_42:Mr:=⟨[.ptr 993 0,.agg [ij 5,ij 5],ij 5],[qb0,qb1],.tup [.str [99,119,99,119,99,119,99,119,99],.bool true],[]⟩
theorem e547_42:mrB Pt.pr 1000000 547 10000 x547_42=true:=by kernel_rfl
noncomputable def x547_43:Mr:=⟨[.ptr 993 0,.agg [ij 5,ij 5],ij 6],[qb0,qb1],.tup [.str [99,119,99,119,99,119,99,119,99,119,99],.bool true],[]⟩
theorem e547_43:mrB Pt.pr 1000000 547 10000 x547_43=true:=by kernel_rfl
noncomputable def x547_44:Mr:=⟨[.ptr 993 0,.agg [ij 5,ij 5],ij 7],[qb0,qb1],.tup [.str [99,119,99,119,99,119,99,119,99,119,99,119,99],.bool true],[]⟩
theorem e547_44:mrB Pt.pr 1000000 547 10000 x547_44=true:=by kernel_rfl
noncomputable def x547_45:Mr:=⟨[.ptr 993 0,.agg [ij 5,ij 5],ij 8],[qb0,qb1],.tup [.str [99,119,99,119,99,119,99,119,99,119,99,119,99,119,99],.bool true],[]⟩
theorem e547_45:mrB Pt.pr 1000000 547 10000 x547_45=true:=by kernel_rfl
noncomputable def x547_46:Mr:=⟨[.ptr 993 0,.agg [ij 5,ij 5],ij 9],[qb0,qb1],.tup [.str [99,119,99,119,99,119,99,119,99,119,99,119,99,119,99,119,99],.bool true],[]⟩
theorem e547_46:mrB Pt.pr 1000000 547 10000 x547_46=true:=by kernel_rfl
noncomputable def x547_47:Mr:=⟨[.ptr 993 0,.agg [ij 6,ij 6],ij 1],[qb0,qb1],.tup [.str [119,99],.bool true],[]⟩
theorem e547_47:mrB Pt.pr 1000000 547 10000 x547_47=true:=by kernel_rfl
noncomputable def x547_48:Mr:=⟨[.ptr 993 0,.agg [ij 6,ij 6],ij 2],[qb0,qb1],.tup [.str [119,99,119,99],.bool true],[]⟩
theorem e547_48:mrB Pt.pr 1000000 547 10000 x547_48=true:=by kernel_rfl
noncomputable def x547_49:Mr:=⟨[.ptr 993 0,.agg [ij 6,ij 6],ij 3],[qb0,qb1],.tup [.str [119,99,119,99,119,99],.bool true],[]⟩
theorem e547_49:mrB Pt.pr 1000000 547 10000 x547_49=true:=by kernel_rfl
end Go.Proofs.YtejmkibjpaoahaaGreatDoor.W07M
