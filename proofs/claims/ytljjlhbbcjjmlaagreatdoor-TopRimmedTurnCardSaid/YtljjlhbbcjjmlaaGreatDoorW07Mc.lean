/- Answers of some calls, each by a run of its own. No condition. -/
import Derived.Test.YtljjlhbbcjjmlaaGreatDoorRunM
import Derived.Test.YtljjlhbbcjjmlaaGreatDoorPr
namespace Go.Proofs.YtljjlhbbcjjmlaaGreatDoor.W07M
open Go Go.Proofs Go.Run Go.Eng
set_option maxRecDepth 100000
noncomputable def x299_50:Mr:=⟨[.ptr 993 0,.agg [.int .i64 6,.int .i64 6],.int .i64 4],[(993,.row [.slice 1 0 8 16,.slice 1 8 8 8,.int .i64 2,.int .i64 5] 350 false),(1,.row (il [2,3,4,5,6,7,7,7,0,0,1,1,2,3,4,4]) 3 false)],.tup [.str [119,99,119,99,119,99,119,99],.bool true],[]⟩
theorem e299_50:mrB Pt.pr 1000000 299 10000 x299_50=true:=by kernel_rfl
noncomputable def x299_51:Mr:=⟨[.ptr 993 0,.agg [.int .i64 6,.int .i64 6],.int .i64 5],[(993,.row [.slice 1 0 8 16,.slice 1 8 8 8,.int .i64 2,.int .i64 5] 350 false),(1,.row (il [2,3,4,5,6,7,7,7,0,0,1,1,2,3,4,4]) 3 false)],.tup [.str [119,99,119,99,119,99,119,99,119,99],.bool true],[]⟩
theorem e299_51:mrB Pt.pr 1000000 299 10000 x299_51=true:=by kernel_rfl
noncomputable def x299_52:Mr:=⟨[.ptr 993 0,.agg [.int .i64 6,.int .i64 6],.int .i64 6],[(993,.row [.slice 1 0 8 16,.slice 1 8 8 8,.int .i64 2,.int .i64 5] 350 false),(1,.row (il [2,3,4,5,6,7,7,7,0,0,1,1,2,3,4,4]) 3 false)],.tup [.str [119,99,119,99,119,99,119,99,119,99,119,99],.bool true],[]⟩
theorem e299_52:mrB Pt.pr 1000000 299 10000 x299_52=true:=by kernel_rfl
noncomputable def x299_53:Mr:=⟨[.ptr 993 0,.agg [.int .i64 6,.int .i64 6],.int .i64 7],[(993,.row [.slice 1 0 8 16,.slice 1 8 8 8,.int .i64 2,.int .i64 5] 350 false),(1,.row (il [2,3,4,5,6,7,7,7,0,0,1,1,2,3,4,4]) 3 false)],.tup [.str [119,99,119,99,119,99,119,99,119,99,119,99,119,99],.bool true],[]⟩
theorem e299_53:mrB Pt.pr 1000000 299 10000 x299_53=true:=by kernel_rfl
noncomputable def x299_54:Mr:=⟨[.ptr 993 0,.agg [.int .i64 6,.int .i64 6],.int .i64 8],[(993,.row [.slice 1 0 8 16,.slice 1 8 8 8,.int .i64 2,.int .i64 5] 350 false),(1,.row (il [2,3,4,5,6,7,7,7,0,0,1,1,2,3,4,4]) 3 false)],.tup [.str [119,99,119,99,119,99,119,99,119,99,119,99,119,99,119,99],.bool true],[]⟩
theorem e299_54:mrB Pt.pr 1000000 299 10000 x299_54=true:=by kernel_rfl
noncomputable def x299_55:Mr:=⟨[.ptr 993 0,.agg [.int .i64 6,.int .i64 6],.int .i64 9],[(993,.row [.slice 1 0 8 16,.slice 1 8 8 8,.int .i64 2,.int .i64 5] 350 false),(1,.row (il [2,3,4,5,6,7,7,7,0,0,1,1,2,3,4,4]) 3 false)],.tup [.str [119,99,119,99,119,99,119,99,119,99,119,99,119,99,119,99,119,99],.bool true],[]⟩
theorem e299_55:mrB Pt.pr 1000000 299 10000 x299_55=true:=by kernel_rfl
noncomputable def x299_56:Mr:=⟨[.ptr 993 0,.agg [.int .i64 7,.int .i64 7],.int .i64 1],[(993,.row [.slice 1 0 8 16,.slice 1 8 8 8,.int .i64 2,.int .i64 5] 350 false),(1,.row (il [2,3,4,5,6,7,7,7,0,0,1,1,2,3,4,4]) 3 false)],.tup [.str [119,99],.bool true],[]⟩
theorem e299_56:mrB Pt.pr 1000000 299 10000 x299_56=true:=by kernel_rfl
noncomputable def x299_57:Mr:=⟨[.ptr 993 0,.agg [.int .i64 7,.int .i64 7],.int .i64 2],[(993,.row [.slice 1 0 8 16,.slice 1 8 8 8,.int .i64 2,.int .i64 5] 350 false),(1,.row (il [2,3,4,5,6,7,7,7,0,0,1,1,2,3,4,4]) 3 false)],.tup [.str [119,99,119,99],.bool true],[]⟩
theorem e299_57:mrB Pt.pr 1000000 299 10000 x299_57=true:=by kernel_rfl
noncomputable def x299_58:Mr:=⟨[.ptr 993 0,.agg [.int .i64 7,.int .i64 7],.int .i64 3],[(993,.row [.slice 1 0 8 16,.slice 1 8 8 8,.int .i64 2,.int .i64 5] 350 false),(1,.row (il [2,3,4,5,6,7,7,7,0,0,1,1,2,3,4,4]) 3 false)],.tup [.str [119,99,119,99,119,99],.bool true],[]⟩
theorem e299_58:mrB Pt.pr 1000000 299 10000 x299_58=true:=by kernel_rfl
noncomputable def x299_59:Mr:=⟨[.ptr 993 0,.agg [.int .i64 7,.int .i64 7],.int .i64 4],[(993,.row [.slice 1 0 8 16,.slice 1 8 8 8,.int .i64 2,.int .i64 5] 350 false),(1,.row (il [2,3,4,5,6,7,7,7,0,0,1,1,2,3,4,4]) 3 false)],.tup [.str [119,99,119,99,119,99,119,99],.bool true],[]⟩
theorem e299_59:mrB Pt.pr 1000000 299 10000 x299_59=true:=by kernel_rfl
noncomputable def x299_60:Mr:=⟨[.ptr 993 0,.agg [.int .i64 7,.int .i64 7],.int .i64 5],[(993,.row [.slice 1 0 8 16,.slice 1 8 8 8,.int .i64 2,.int .i64 5] 350 false),(1,.row (il [2,3,4,5,6,7,7,7,0,0,1,1,2,3,4,4]) 3 false)],.tup [.str [119,99,119,99,119,99,119,99,119,99],.bool true],[]⟩
theorem e299_60:mrB Pt.pr 1000000 299 10000 x299_60=true:=by kernel_rfl
noncomputable def x299_61:Mr:=⟨[.ptr 993 0,.agg [.int .i64 7,.int .i64 7],.int .i64 6],[(993,.row [.slice 1 0 8 16,.slice 1 8 8 8,.int .i64 2,.int .i64 5] 350 false),(1,.row (il [2,3,4,5,6,7,7,7,0,0,1,1,2,3,4,4]) 3 false)],.tup [.str [119,99,119,99,119,99,119,99,119,99,119,99],.bool true],[]⟩
theorem e299_61:mrB Pt.pr 1000000 299 10000 x299_61=true:=by kernel_rfl
noncomputable def x299_62:Mr:=⟨[.ptr 993 0,.agg [.int .i64 7,.int .i64 7],.int .i64 7],[(993,.row [.slice 1 0 8 16,.slice 1 8 8 8,.int .i64 2,.int .i64 5] 350 false),(1,.row (il [2,3,4,5,6,7,7,7,0,0,1,1,2,3,4,4]) 3 false)],.tup [.str [119,99,119,99,119,99,119,99,119,99,119,99,119,99],.bool true],[]⟩
theorem e299_62:mrB Pt.pr 1000000 299 10000 x299_62=true:=by kernel_rfl
noncomputable def x299_63:Mr:=⟨[.ptr 993 0,.agg [.int .i64 7,.int .i64 7],.int .i64 8],[(993,.row [.slice 1 0 8 16,.slice 1 8 8 8,.int .i64 2,.int .i64 5] 350 false),(1,.row (il [2,3,4,5,6,7,7,7,0,0,1,1,2,3,4,4]) 3 false)],.tup [.str [119,99,119,99,119,99,119,99,119,99,119,99,119,99,119,99],.bool true],[]⟩
theorem e299_63:mrB Pt.pr 1000000 299 10000 x299_63=true:=by kernel_rfl
noncomputable def x299_64:Mr:=⟨[.ptr 993 0,.agg [.int .i64 7,.int .i64 7],.int .i64 9],[(993,.row [.slice 1 0 8 16,.slice 1 8 8 8,.int .i64 2,.int .i64 5] 350 false),(1,.row (il [2,3,4,5,6,7,7,7,0,0,1,1,2,3,4,4]) 3 false)],.tup [.str [119,99,119,99,119,99,119,99,119,99,119,99,119,99,119,99,119,99],.bool true],[]⟩
theorem e299_64:mrB Pt.pr 1000000 299 10000 x299_64=true:=by kernel_rfl
noncomputable def x299_65:Mr:=⟨[.ptr 1657 0,.agg [.int .i64 3,.int .i64 3],.int .i64 1],[(1657,.row [.slice 1 0 8 16,.slice 1 8 8 8,.int .i64 2,.int .i64 5] 350 false),(1,.row (il [2,3,4,5,6,7,7,7,0,0,1,1,2,3,4,4]) 3 false)],.tup [.str [99],.bool true],[]⟩
theorem e299_65:mrB Pt.pr 1000000 299 10000 x299_65=true:=by kernel_rfl
noncomputable def x299_66:Mr:=⟨[.ptr 1657 0,.agg [.int .i64 3,.int .i64 3],.int .i64 2],[(1657,.row [.slice 1 0 8 16,.slice 1 8 8 8,.int .i64 2,.int .i64 5] 350 false),(1,.row (il [2,3,4,5,6,7,7,7,0,0,1,1,2,3,4,4]) 3 false)],.tup [.str [99,99],.bool true],[]⟩
theorem e299_66:mrB Pt.pr 1000000 299 10000 x299_66=true:=by kernel_rfl
noncomputable def x299_67:Mr:=⟨[.ptr 1657 0,.agg [.int .i64 3,.int .i64 3],.int .i64 3],[(1657,.row [.slice 1 0 8 16,.slice 1 8 8 8,.int .i64 2,.int .i64 5] 350 false),(1,.row (il [2,3,4,5,6,7,7,7,0,0,1,1,2,3,4,4]) 3 false)],.tup [.str [99,99,119,99],.bool true],[]⟩
theorem e299_67:mrB Pt.pr 1000000 299 10000 x299_67=true:=by kernel_rfl
noncomputable def x299_68:Mr:=⟨[.ptr 1657 0,.agg [.int .i64 3,.int .i64 3],.int .i64 4],[(1657,.row [.slice 1 0 8 16,.slice 1 8 8 8,.int .i64 2,.int .i64 5] 350 false),(1,.row (il [2,3,4,5,6,7,7,7,0,0,1,1,2,3,4,4]) 3 false)],.tup [.str [99,99,119,99,119,99],.bool true],[]⟩
theorem e299_68:mrB Pt.pr 1000000 299 10000 x299_68=true:=by kernel_rfl
noncomputable def x299_69:Mr:=⟨[.ptr 1657 0,.agg [.int .i64 3,.int .i64 3],.int .i64 5],[(1657,.row [.slice 1 0 8 16,.slice 1 8 8 8,.int .i64 2,.int .i64 5] 350 false),(1,.row (il [2,3,4,5,6,7,7,7,0,0,1,1,2,3,4,4]) 3 false)],.tup [.str [99,99,119,99,119,99,119,99],.bool true],[]⟩
theorem e299_69:mrB Pt.pr 1000000 299 10000 x299_69=true:=by kernel_rfl
noncomputable def x299_70:Mr:=⟨[.ptr 1657 0,.agg [.int .i64 3,.int .i64 3],.int .i64 6],[(1657,.row [.slice 1 0 8 16,.slice 1 8 8 8,.int .i64 2,.int .i64 5] 350 false),(1,.row (il [2,3,4,5,6,7,7,7,0,0,1,1,2,3,4,4]) 3 false)],.tup [.str [99,99,119,99,119,99,119,99,119,99],.bool true],[]⟩
theorem e299_70:mrB Pt.pr 1000000 299 10000 x299_70=true:=by kernel_rfl
noncomputable def x299_71:Mr:=⟨[.ptr 1657 0,.agg [.int .i64 3,.int .i64 3],.int .i64 7],[(1657,.row [.slice 1 0 8 16,.slice 1 8 8 8,.int .i64 2,.int .i64 5] 350 false),(1,.row (il [2,3,4,5,6,7,7,7,0,0,1,1,2,3,4,4]) 3 false)],.tup [.str [99,99,119,99,119,99,119,99,119,99,119,99],.bool true],[]⟩
theorem e299_71:mrB Pt.pr 1000000 299 10000 x299_71=true:=by kernel_rfl
noncomputable def x299_72:Mr:=⟨[.ptr 1657 0,.agg [.int .i64 3,.int .i64 3],.int .i64 8],[(1657,.row [.slice 1 0 8 16,.slice 1 8 8 8,.int .i64 2,.int .i64 5] 350 false),(1,.row (il [2,3,4,5,6,7,7,7,0,0,1,1,2,3,4,4]) 3 false)],.tup [.str [99,99,119,99,119,99,119,99,119,99,119,99,119,99],.bool true],[]⟩
theorem e299_72:mrB Pt.pr 1000000 299 10000 x299_72=true:=by kernel_rfl
noncomputable def x299_73:Mr:=⟨[.ptr 1657 0,.agg [.int .i64 3,.int .i64 3],.int .i64 9],[(1657,.row [.slice 1 0 8 16,.slice 1 8 8 8,.int .i64 2,.int .i64 5] 350 false),(1,.row (il [2,3,4,5,6,7,7,7,0,0,1,1,2,3,4,4]) 3 false)],.tup [.str [99,99,119,99,119,99,119,99,119,99,119,99,119,99,119,99],.bool true],[]⟩
theorem e299_73:mrB Pt.pr 1000000 299 10000 x299_73=true:=by kernel_rfl
noncomputable def x299_74:Mr:=⟨[.ptr 1823 0,.agg [.int .i64 3,.int .i64 3],.int .i64 1],[(1823,.row [.slice 1 0 8 16,.slice 1 8 8 8,.int .i64 2,.int .i64 5] 350 false),(1,.row (il [2,3,4,5,6,7,7,7,0,0,1,1,2,3,4,4]) 3 false)],.tup [.str [99],.bool true],[]⟩
theorem e299_74:mrB Pt.pr 1000000 299 10000 x299_74=true:=by kernel_rfl
end Go.Proofs.YtljjlhbbcjjmlaaGreatDoor.W07M
