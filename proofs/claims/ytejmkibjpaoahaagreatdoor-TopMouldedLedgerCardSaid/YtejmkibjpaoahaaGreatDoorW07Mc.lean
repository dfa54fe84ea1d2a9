/- Lemmas. No condition. -/
import Derived.Test.YtejmkibjpaoahaaGreatDoorPr
import Derived.Test.YtejmkibjpaoahaaGreatDoorRunM
namespace Go.Proofs.YtejmkibjpaoahaaGreatDoor.W07M
open Go Go.Proofs Go.Run Go.Eng
set_option maxRecDepth 100000
noncomputable def qc0:Nat×VO:=(1,.row (il [2,3,4,5,6,7,7,7,0,0,1,1,2,3,4,4]) 3 false)
noncomputable def qc1:Nat×VO:=(993,.row [.slice 1 0 8 16,.slice 1 8 8 8,ij 2,ij 5] 613 false)
noncomputable def qc2:Nat×VO:=(1657,.row [.slice 1 0 8 16,.slice 1 8 8 8,ij 2,ij 5] 613 false)
noncomputable def x547_50:Mr:=⟨[.ptr 993 0,.agg [ij 6,ij 6],ij 4],[qc1,qc0],.tup [.str [119,99,119,99,119,99,119,99],.bool true],[]⟩
theorem e547_50:mrB Pt.pr 1000000 547 10000 x547_50=true:=by kernel_rfl
noncomputable def x547_51:Mr:=⟨[.ptr 993 0,.agg [ij 6,ij 6],ij 5],[qc1,qc0],.tup [.str [119,99,119,99,119,99,119,99,119,99],.bool true],[]⟩
theorem e547_51:mrB Pt.pr 1000000 547 10000 x547_51=true:=by kernel_rfl
noncomputable def x547_52:Mr:=⟨[.ptr 993 0,.agg [ij 6,ij 6],ij 6],[qc1,qc0],.tup [.str [119,99,119,99,119,99,119,99,119,99,119,99],.bool true],[]⟩
theorem e547_52:mrB Pt.pr 1000000 547 10000 x547_52=true:=by kernel_rfl
noncomputable def x547_53:Mr:=⟨[.ptr 993 0,.agg [ij 6,ij 6],ij 7],[qc1,qc0],.tup [.str [119,99,119,99,119,99,119,99,119,99,119,99,119,99],.bool true],[]⟩
theorem e547_53:mrB Pt.pr 1000000 547 10000 x547_53=true:=by kernel_rfl
noncomputable def x547_54:Mr:=⟨[.ptr 993 0,.agg [ij 6,ij 6],ij 8],[qc1,qc0],.tup [.str [119,99,119,99,119,99,119,99,119,99,119,99,119,99,119,99],.bool true],[]⟩
theorem e547_54:mrB Pt.pr 1000000 547 10000 x547_54=true:=by kernel_rfl
noncomputable def x547_55:Mr:=⟨[.ptr 993 0,.agg [ij 6,ij 6],ij 9],[qc1,qc0],.tup [.str [119,99,119,99,119,99,119,99,119,99,119,99,119,99,119,99,119,99],.bool true],[]⟩
theorem e547_55:mrB Pt.pr 1000000 547 10000 x547_55=true:=by kernel_rfl
noncomputable def x547_56:Mr:=⟨[.ptr 993 0,.agg [ij 7,ij 7],ij 1],[qc1,qc0],.tup [.str [119,99],.bool true],[]⟩
theorem e547_56:mrB Pt.pr 1000000 547 10000 x547_56=true:=by kernel_rfl
noncomputable def x547_57:Mr:=⟨[.ptr 993 0,.agg [ij 7,ij 7],ij 2],[qc1,qc0],.tup [.str [119,99,119,99],.bool true],[]⟩
theorem e547_57:mrB Pt.pr 1000000 547 10000 x547_57=true:=by kernel_rfl
noncomputable def x547_58:Mr:=⟨[.ptr 993 0,.agg [ij 7,ij 7],ij 3],[qc1,qc0],.tup [.str [119,99,119,99,119,99],.bool true],[]⟩
theorem e547_58:mrB Pt.pr 1000000 547 10000 x547_58=true:=by kernel_rfl
noncomputable def x547_59:Mr:=⟨[.ptr 993 0,.agg [ij 7,ij 7],ij 4],[qc1,qc0],.tup [.str [119,99,119,99,119,99,119,99],.bool true],[]⟩
theorem e547_59:mrB Pt.pr 1000000 547 10000 x547_59=true:=by kernel_rfl
noncomputable def x547_60:Mr:=⟨[.ptr 993 0,.agg [ij 7,ij 7],ij 5],[qc1,qc0],.tup [.str [119,99,119,99,119,99,119,99,119,99],.bool true],[]⟩
theorem e547_60:mrB Pt.pr 1000000 547 10000 x547_60=true:=by kernel_rfl
noncomputable def x547_61:Mr:=⟨[.ptr 993 0,.agg [ij 7,ij 7],ij 6],[qc1,qc0],.tup [.str [119,99,119,99,119,99,119,99,119,99,119,99],.bool true],[]⟩
theorem e547_61:mrB Pt.pr 1000000 547 10000 x547_61=true:=by kernel_rfl
noncomputable def x547_62:Mr:=⟨[.ptr 993 0,.agg [ij 7,ij 7],ij 7],[qc1,qc0],.tup [.str [119,99,119,99,119,99,119,99,119,99,119,99,119,99],.bool true],[]⟩
theorem e547_62:mrB Pt.pr 1000000 547 10000 x547_62=true:=by kernel_rfl
noncomputable def x547_63:Mr:=⟨[.ptr 993 0,.agg [ij 7,ij 7],ij 8],[qc1,qc0],.tup [.str [119,99,119,99,119,99,119,99,119,99,119,99,119,99,119,99],.bool true],[]⟩
theorem e547_63:mrB Pt.pr 1000000 547 10000 x547_63=true:=by kernel_rfl
noncomputable def x547_64:Mr:=⟨[.ptr 993 0,.agg [ij 7,ij 7],ij 9],[qc1,qc0],.tup [.str [119,99,119,99,119,99,119,99,119,99,119,99,119,99,119,99,119,99],.bool true],[]⟩
theorem e547_64:mrB Pt.pr 1000000 547 10000 x547_64=true:=by kernel_rfl
noncomputable def x547_65:Mr:=⟨[.ptr 1657 0,.agg [ij 3,ij 3],ij 1],[qc2,qc0],.tup [.str [99],.bool true],[]⟩
theorem e547_65:mrB Pt.pr 1000000 547 10000 x547_65=true:=by kernel_rfl
noncomputable def x547_66:Mr:=⟨[.ptr 1657 0,.agg [ij 3,ij 3],ij 2],[qc2,qc0],.tup [.str [99,99],.bool true],[]⟩
theorem e547_66:mrB Pt.pr 1000000 547 10000 x547_66=true:=by kernel_rfl
noncomputable def x547_67:Mr:=⟨[.ptr 1657 0,.agg [ij 3,ij 3],ij 3],[qc2,qc0],.tup [.str [99,99,119,99],.bool true],[]⟩
theorem e547_67:mrB Pt.pr 1000000 547 10000 x547_67=true:=by kernel_rfl
noncomputable def x547_68:Mr:=⟨[.ptr 1657 0,.agg [ij 3,ij 3],ij 4],[qc2,qc0],.tup [.str [99,99,119,99,119,99],.bool true],[]⟩
theorem e547_68:mrB Pt.pr 1000000 547 10000 x547_68=true:=by kernel_rfl
noncomputable def x547_69:Mr:=⟨[.ptr 1657 0,.agg [ij 3,ij 3],ij 5],[qc2,qc0],.tup [.str [99,99,119,99,119,99,119,99],.bool true],[]⟩
theorem e547_69:mrB Pt.pr 1000000 547 10000 x547_69=true:=by kernel_rfl
noncomputable def x547_70:Mr:=⟨[.ptr 1657 0,.agg [ij 3,ij 3],ij 6],[qc2,qc0],.tup [.str [99,99,119,99,119,99,119,99,119,99],.bool true],[]⟩
theorem e547_70:mrB Pt.pr 1000000 547 10000 x547_70=true:=by kernel_rfl
noncomputable def x547_71:Mr:=⟨[.ptr 1657 0,.agg [ij 3,ij 3],ij 7],[qc2,qc0],.tup [.str [99,99,119,99,119,99,119,99,119,99,119,99],.bool true],[]⟩
theorem e547_71:mrB Pt.pr 1000000 547 10000 x547_71=true:=by kernel_rfl
noncomputable def x547_72:Mr:=⟨[.ptr 1657 0,.agg [ij 3,ij 3],ij 8],[qc2,qc0],.tup [.str [99,99,119,99,119,99,119,99,119,99,119,99,119,99],.bool true],[]⟩
theorem e547_72:mrB Pt.pr 1000000 547 10000 x547_72=true:=by kernel_rfl
noncomputable def x547_73:Mr:=⟨[.ptr 1657 0,.agg [ij 3,ij 3],ij 9],[qc2,qc0],.tup [.str [99,99,119,99,119,99,119,99,119,99,119,99,119,99,119,99],.bool true],[]⟩
theorem e547_73:mrB Pt.pr 1000000 547 10000 x547_73=true:=by kernel_rfl
noncomputable def x547_74:Mr:=⟨[.ptr 1823 0,.agg [ij 3,ij 3],ij 1],[(1823,.row [.slice 1 0 8 16,.slice 1 8 8 8,ij 2,ij 5] 613 false),qc0],.tup [.str [99],.bool true],[]⟩
theorem e547_74:mrB Pt.pr 1000000 547 10000 x547_74=true:=by kernel_rfl
end Go.Proofs.YtejmkibjpaoahaaGreatDoor.W07M
