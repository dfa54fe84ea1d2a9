/- Answers of some calls, each by a run of its own. No condition. -/
import Derived.Test.YtljjlhbbcjjmlaaGreatDoorRunM
import Derived.Test.YtljjlhbbcjjmlaaGreatDoorPr
namespace Go.Proofs.YtljjlhbbcjjmlaaGreatDoor.W07M
open Go Go.Proofs Go.Run Go.Eng
set_option maxRecDepth 100000
noncomputable def x299_25:Mr:=⟨[.ptr 993 0,.agg [.int .i64 3,.int .i64 3],.int .i64 6],[(993,.row [.slice 1 0 8 16,.slice 1 8 8 8,.int .i64 2,.int .i64 5] 350 false),(1,.row (il [2,3,4,5,6,7,7,7,0,0,1,1,2,3,4,4]) 3 false)],.tup [.str [99,99,119,99,119,99,119,99,119,99],.bool true],[]⟩
theorem e299_25:mrB Pt.pr 1000000 299 10000 x299_25=true:=by kernel_rfl
noncomputable def x299_26:Mr:=⟨[.ptr 993 0,.agg [.int .i64 3,.int .i64 3],.int .i64 7],[(993,.row [.slice 1 0 8 16,.slice 1 8 8 8,.int .i64 2,.int .i64 5] 350 false),(1,.row (il [2,3,4,5,6,7,7,7,0,0,1,1,2,3,4,4]) 3 false)],.tup [.str [99,99,119,99,119,99,119,99,119,99,119,99],.bool true],[]⟩
theorem e299_26:mrB Pt.pr 1000000 299 10000 x299_26=true:=by kernel_rfl
noncomputable def x299_27:Mr:=⟨[.ptr 993 0,.agg [.int .i64 3,.int .i64 3],.int .i64 8],[(993,.row [.slice 1 0 8 16,.slice 1 8 8 8,.int .i64 2,.int .i64 5] 350 false),(1,.row (il [2,3,4,5,6,7,7,7,0,0,1,1,2,3,4,4]) 3 false)],.tup [.str [99,99,119,99,119,99,119,99,119,99,119,99,119,99],.bool true],[]⟩
theorem e299_27:mrB Pt.pr 1000000 299 10000 x299_27=true:=by kernel_rfl
noncomputable def x299_28:Mr:=⟨[.ptr 993 0,.agg [.int .i64 3,.int .i64 3],.int .i64 9],[(993,.row [.slice 1 0 8 16,.slice 1 8 8 8,.int .i64 2,.int .i64 5] 350 false),(1,.row (il [2,3,4,5,6,7,7,7,0,0,1,1,2,3,4,4]) 3 false)],.tup [.str [99,99,119,99,119,99,119,99,119,99,119,99,119,99,119,99],.bool true],[]⟩
theorem e299_28:mrB Pt.pr 1000000 299 10000 x299_28=true:=by kernel_rfl
noncomputable def x299_29:Mr:=⟨[.ptr 993 0,.agg [.int .i64 4,.int .i64 4],.int .i64 1],[(993,.row [.slice 1 0 8 16,.slice 1 8 8 8,.int .i64 2,.int .i64 5] 350 false),(1,.row (il [2,3,4,5,6,7,7,7,0,0,1,1,2,3,4,4]) 3 false)],.tup [.str [99],.bool true],[]⟩
theorem e299_29:mrB Pt.pr 1000000 299 10000 x299_29=true:=by kernel_rfl
noncomputable def x299_30:Mr:=⟨[.ptr 993 0,.agg [.int .i64 4,.int .i64 4],.int .i64 2],[(993,.row [.slice 1 0 8 16,.slice 1 8 8 8,.int .i64 2,.int .i64 5] 350 false),(1,.row (il [2,3,4,5,6,7,7,7,0,0,1,1,2,3,4,4]) 3 false)],.tup [.str [99,119,99],.bool true],[]⟩
theorem e299_30:mrB Pt.pr 1000000 299 10000 x299_30=true:=by kernel_rfl
noncomputable def x299_31:Mr:=⟨[.ptr 993 0,.agg [.int .i64 4,.int .i64 4],.int .i64 3],[(993,.row [.slice 1 0 8 16,.slice 1 8 8 8,.int .i64 2,.int .i64 5] 350 false),(1,.row (il [2,3,4,5,6,7,7,7,0,0,1,1,2,3,4,4]) 3 false)],.tup [.str [99,119,99,119,99],.bool true],[]⟩
theorem e299_31:mrB Pt.pr 1000000 299 10000 x299_31=true:=by kernel_rfl
noncomputable def x299_32:Mr:=⟨[.ptr 993 0,.agg [.int .i64 4,.int .i64 4],.int .i64 4],[(993,.row [.slice 1 0 8 16,.slice 1 8 8 8,.int .i64 2,.int .i64 5] 350 false),(1,.row (il [2,3,4,5,6,7,7,7,0,0,1,1,2,3,4,4]) 3 false)],.tup [.str [99,119,99,119,99,119,99],.bool true],[]⟩
theorem e299_32:mrB Pt.pr 1000000 299 10000 x299_32=true:=by kernel_rfl
noncomputable def x299_33:Mr:=⟨[.ptr 993 0,.agg [.int .i64 4,.int .i64 4],.int .i64 5],[(993,.row [.slice 1 0 8 16,.slice 1 8 8 8,.int .i64 2,.int .i64 5] 350 false),(1,.row (il [2,3,4,5,6,7,7,7,0,0,1,1,2,3,4,4]) 3 false)],.tup [.str [99,119,99,119,99,119,99,119,99],.bool true],[]⟩
theorem e299_33:mrB Pt.pr 1000000 299 10000 x299_33=true:=by kernel_rfl
noncomputable def x299_34:Mr:=⟨[.ptr 993 0,.agg [.int .i64 4,.int .i64 4],.int .i64 6],[(993,.row [.slice 1 0 8 16,.slice 1 8 8 8,.int .i64 2,.int .i64 5] 350 false),(1,.row (il [2,3,4,5,6,7,7,7,0,0,1,1,2,3,4,4]) 3 false)],.tup [.str [99,119,99,119,99,119,99,119,99,119,99],.bool true],[]⟩
theorem e299_34:mrB Pt.pr 1000000 299 10000 x299_34=true:=by kernel_rfl
noncomputable def x299_35:Mr:=⟨[.ptr 993 0,.agg [.int .i64 4,.int .i64 4],.int .i64 7],[(993,.row [.slice 1 0 8 16,.slice 1 8 8 8,.int .i64 2,.int .i64 5] 350 false),(1,.row (il [2,3,4,5,6,7,7,7,0,0,1,1,2,3,4,4]) 3 false)],.tup [.str [99,119,99,119,99,119,99,119,99,119,99,119,99],.bool true],[]⟩
theorem e299_35:mrB Pt.pr 1000000 299 10000 x299_35=true:=by kernel_rfl
noncomputable def x299_36:Mr:=⟨[.ptr 993 0,.agg [.int .i64 4,.int .i64 4],.int .i64 8],[(993,.row [.slice 1 0 8 16,.slice 1 8 8 8,.int .i64 2,.int .i64 5] 350 false),(1,.row (il [2,3,4,5,6,7,7,7,0,0,1,1,2,3,4,4]) 3 false)],.tup [.str [99,119,99,119,99,119,99,119,99,119,99,119,99,119,99],.bool true],[]⟩
theorem e299_36:mrB Pt.pr 1000000 299 10000 x299_36=true:=by kernel_rfl
noncomputable def x299_37:Mr:=⟨[.ptr 993 0,.agg [.int .i64 4,.int .i64 4],.int .i64 9],[(993,.row [.slice 1 0 8 16,.slice 1 8 8 8,.int .i64 2,.int .i64 5] 350 false),(1,.row (il [2,3,4,5,6,7,7,7,0,0,1,1,2,3,4,4]) 3 false)],.tup [.str [99,119,99,119,99,119,99,119,99,119,99,119,99,119,99,119,99],.bool true],[]⟩
theorem e299_37:mrB Pt.pr 1000000 299 10000 x299_37=true:=by kernel_rfl
noncomputable def x299_38:Mr:=⟨[.ptr 993 0,.agg [.int .i64 5,.int .i64 5],.int .i64 1],[(993,.row [.slice 1 0 8 16,.slice 1 8 8 8,.int .i64 2,.int .i64 5] 350 false),(1,.row (il [2,3,4,5,6,7,7,7,0,0,1,1,2,3,4,4]) 3 false)],.tup [.str [99],.bool true],[]⟩
theorem e299_38:mrB Pt.pr 1000000 299 10000 x299_38=true:=by kernel_rfl
noncomputable def x299_39:Mr:=⟨[.ptr 993 0,.agg [.int .i64 5,.int .i64 5],.int .i64 2],[(993,.row [.slice 1 0 8 16,.slice 1 8 8 8,.int .i64 2,.int .i64 5] 350 false),(1,.row (il [2,3,4,5,6,7,7,7,0,0,1,1,2,3,4,4]) 3 false)],.tup [.str [99,119,99],.bool true],[]⟩
theorem e299_39:mrB Pt.pr 1000000 299 10000 x299_39=true:=by kernel_rfl
noncomputable def x299_40:Mr:=⟨[.ptr 993 0,.agg [.int .i64 5,.int .i64 5],.int .i64 3],[(993,.row [.slice 1 0 8 16,.slice 1 8 8 8,.int .i64 2,.int .i64 5] 350 false),(1,.row (il [2,3,4,5,6,7,7,7,0,0,1,1,2,3,4,4]) 3 false)],.tup [.str [99,119,99,119,99],.bool true],[]⟩
theorem e299_40:mrB Pt.pr 1000000 299 10000 x299_40=true:=by kernel_rfl
noncomputable def x299_41:Mr:=⟨[.ptr 993 0,.agg [.int .i64 5,.int .i64 5],.int .i64 4],[(993,.row [.slice 1 0 8 16,.slice 1 8 8 8,.int .i64 2,.int .i64 5] 350 false),(1,.row (il [2,3,4,5,6,7,7,7,0,0,1,1,2,3,4,4]) 3 false)],.tup [.str [99,119,99,119,99,119,99],.bool true],[]⟩
theorem e299_41:mrB Pt.pr 1000000 299 10000 x299_41=true:=by kernel_rfl
noncomputable def x299_42:Mr:=⟨[.ptr 993 0,.agg [.int .i64 5,.int .i64 5],.int .i64 5],[(993,.row [.slice 1 0 8 16,.slice 1 8 8 8,.int .i64 2,.int .i64 5] 350 false),(1,.row (il [2,3,4,5,6,7,7,7,0,0,1,1,2,3,4,4]) 3 false)],.tup [.str [99,119,99,119,99,119,99,119,99],.bool true],[]⟩
theorem e299_42:mrB Pt.pr 1000000 299 10000 x299_42=true:=by kernel_rfl
noncomputable def x299_43:Mr:=⟨[.ptr 993 0,.agg [.int .i64 5,.int .i64 5],.int .i64 6],[(993,.row [.slice 1 0 8 16,.slice 1 8 8 8,.int .i64 2,.int .i64 5] 350 false),(1,.row (il [2,3,4,5,6,7,7,7,0,0,1,1,2,3,4,4]) 3 false)],.tup [.str [99,119,99,119,99,119,99,119,99,119,99],.bool true],[]⟩
theorem e299_43:mrB Pt.pr 1000000 299 10000 x299_43=true:=by kernel_rfl
noncomputable def x299_44:Mr:=⟨[.ptr 993 0,.agg [.int .i64 5,.int .i64 5],.int .i64 7],[(993,.row [.slice 1 0 8 16,.slice 1 8 8 8,.int .i64 2,.int .i64 5] 350 false),(1,.row (il [2,3,4,5,6,7,7,7,0,0,1,1,2,3,4,4]) 3 false)],.tup [.str [99,119,99,119,99,119,99,119,99,119,99,119,99],.bool true],[]⟩
theorem e299_44:mrB Pt.pr 1000000 299 10000 x299_44=true:=by kernel_rfl
noncomputable def x299_45:Mr:=⟨[.ptr 993 0,.agg [.int .i64 5,.int .i64 5],.int .i64 8],[(993,.row [.slice 1 0 8 16,.slice 1 8 8 8,.int .i64 2,.int .i64 5] 350 false),(1,.row (il [2,3,4,5,6,7,7,7,0,0,1,1,2,3,4,4]) 3 false)],.tup [.str [99,119,99,119,99,119,99,119,99,119,99,119,99,119,99],.bool true],[]⟩
theorem e299_45:mrB Pt.pr 1000000 299 10000 x299_45=true:=by kernel_rfl
noncomputable def x299_46:Mr:=⟨[.ptr 993 0,.agg [.int .i64 5,.int .i64 5],.int .i64 9],[(993,.row [.slice 1 0 8 16,.slice 1 8 8 8,.int .i64 2,.int .i64 5] 350 false),(1,.row (il [2,3,4,5,6,7,7,7,0,0,1,1,2,3,4,4]) 3 false)],.tup [.str [99,119,99,119,99,119,99,119,99,119,99,119,99,119,99,119,99],.bool true],[]⟩
theorem e299_46:mrB Pt.pr 1000000 299 10000 x299_46=true:=by kernel_rfl
noncomputable def x299_47:Mr:=⟨[.ptr 993 0,.agg [.int .i64 6,.int .i64 6],.int .i64 1],[(993,.row [.slice 1 0 8 16,.slice 1 8 8 8,.int .i64 2,.int .i64 5] 350 false),(1,.row (il [2,3,4,5,6,7,7,7,0,0,1,1,2,3,4,4]) 3 false)],.tup [.str [119,99],.bool true],[]⟩
theorem e299_47:mrB Pt.pr 1000000 299 10000 x299_47=true:=by kernel_rfl
noncomputable def x299_48:Mr:=⟨[.ptr 993 0,.agg [.int .i64 6,.int .i64 6],.int .i64 2],[(993,.row [.slice 1 0 8 16,.slice 1 8 8 8,.int .i64 2,.int .i64 5] 350 false),(1,.row (il [2,3,4,5,6,7,7,7,0,0,1,1,2,3,4,4]) 3 false)],.tup [.str [119,99,119,99],.bool true],[]⟩
theorem e299_48:mrB Pt.pr 1000000 299 10000 x299_48=true:=by kernel_rfl
noncomputable def x299_49:Mr:=⟨[.ptr 993 0,.agg [.int .i64 6,.int .i64 6],.int .i64 3],[(993,.row [.slice 1 0 8 16,.slice 1 8 8 8,.int .i64 2,.int .i64 5] 350 false),(1,.row (il [2,3,4,5,6,7,7,7,0,0,1,1,2,3,4,4]) 3 false)],.tup [.str [119,99,119,99,119,99],.bool true],[]⟩
theorem e299_49:mrB Pt.pr 1000000 299 10000 x299_49=true:=by kernel_rfl
end Go.Proofs.YtljjlhbbcjjmlaaGreatDoor.W07M
