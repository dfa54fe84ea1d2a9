/- Answers of some calls, each by a run of its own. No condition. -/
import Derived.Test.YtljjlhbbcjjmlaaGreatDoorRunM
import Derived.Test.YtljjlhbbcjjmlaaGreatDoorPr
namespace Go.Proofs.YtljjlhbbcjjmlaaGreatDoor.W07M
open Go Go.Proofs Go.Run Go.Eng
set_option maxRecDepth 100000
noncomputable def x299_0:Mr:=⟨[.ptr 866 0,.agg [.int .i64 3,.int .i64 3],.int .i64 1],[(866,.row [.slice 1 0 8 16,.slice 1 8 8 8,.int .i64 2,.int .i64 5] 350 false),(1,.row (il [2,3,4,5,6,7,7,7,0,0,1,1,2,3,4,4]) 3 false)],.tup [.str [99],.bool true],[]⟩
theorem e299_0:mrB Pt.pr 1000000 299 10000 x299_0=true:=by kernel_rfl
noncomputable def x299_1:Mr:=⟨[.ptr 866 0,.agg [.int .i64 3,.int .i64 3],.int .i64 2],[(866,.row [.slice 1 0 8 16,.slice 1 8 8 8,.int .i64 2,.int .i64 5] 350 false),(1,.row (il [2,3,4,5,6,7,7,7,0,0,1,1,2,3,4,4]) 3 false)],.tup [.str [99,99],.bool true],[]⟩
theorem e299_1:mrB Pt.pr 1000000 299 10000 x299_1=true:=by kernel_rfl
noncomputable def x299_2:Mr:=⟨[.ptr 866 0,.agg [.int .i64 3,.int .i64 3],.int .i64 3],[(866,.row [.slice 1 0 8 16,.slice 1 8 8 8,.int .i64 2,.int .i64 5] 350 false),(1,.row (il [2,3,4,5,6,7,7,7,0,0,1,1,2,3,4,4]) 3 false)],.tup [.str [99,99,119,99],.bool true],[]⟩
theorem e299_2:mrB Pt.pr 1000000 299 10000 x299_2=true:=by kernel_rfl
noncomputable def x299_3:Mr:=⟨[.ptr 866 0,.agg [.int .i64 3,.int .i64 3],.int .i64 4],[(866,.row [.slice 1 0 8 16,.slice 1 8 8 8,.int .i64 2,.int .i64 5] 350 false),(1,.row (il [2,3,4,5,6,7,7,7,0,0,1,1,2,3,4,4]) 3 false)],.tup [.str [99,99,119,99,119,99],.bool true],[]⟩
theorem e299_3:mrB Pt.pr 1000000 299 10000 x299_3=true:=by kernel_rfl
noncomputable def x299_4:Mr:=⟨[.ptr 866 0,.agg [.int .i64 3,.int .i64 3],.int .i64 5],[(866,.row [.slice 1 0 8 16,.slice 1 8 8 8,.int .i64 2,.int .i64 5] 350 false),(1,.row (il [2,3,4,5,6,7,7,7,0,0,1,1,2,3,4,4]) 3 false)],.tup [.str [99,99,119,99,119,99,119,99],.bool true],[]⟩
theorem e299_4:mrB Pt.pr 1000000 299 10000 x299_4=true:=by kernel_rfl
noncomputable def x299_5:Mr:=⟨[.ptr 866 0,.agg [.int .i64 3,.int .i64 3],.int .i64 6],[(866,.row [.slice 1 0 8 16,.slice 1 8 8 8,.int .i64 2,.int .i64 5] 350 false),(1,.row (il [2,3,4,5,6,7,7,7,0,0,1,1,2,3,4,4]) 3 false)],.tup [.str [99,99,119,99,119,99,119,99,119,99],.bool true],[]⟩
theorem e299_5:mrB Pt.pr 1000000 299 10000 x299_5=true:=by kernel_rfl
noncomputable def x299_6:Mr:=⟨[.ptr 866 0,.agg [.int .i64 3,.int .i64 3],.int .i64 7],[(866,.row [.slice 1 0 8 16,.slice 1 8 8 8,.int .i64 2,.int .i64 5] 350 false),(1,.row (il [2,3,4,5,6,7,7,7,0,0,1,1,2,3,4,4]) 3 false)],.tup [.str [99,99,119,99,119,99,119,99,119,99,119,99],.bool true],[]⟩
theorem e299_6:mrB Pt.pr 1000000 299 10000 x299_6=true:=by kernel_rfl
noncomputable def x299_7:Mr:=⟨[.ptr 866 0,.agg [.int .i64 3,.int .i64 3],.int .i64 8],[(866,.row [.slice 1 0 8 16,.slice 1 8 8 8,.int .i64 2,.int .i64 5] 350 false),(1,.row (il [2,3,4,5,6,7,7,7,0,0,1,1,2,3,4,4]) 3 false)],.tup [.str [99,99,119,99,119,99,119,99,119,99,119,99,119,99],.bool true],[]⟩
theorem e299_7:mrB Pt.pr 1000000 299 10000 x299_7=true:=by kernel_rfl
noncomputable def x299_8:Mr:=⟨[.ptr 866 0,.agg [.int .i64 3,.int .i64 3],.int .i64 9],[(866,.row [.slice 1 0 8 16,.slice 1 8 8 8,.int .i64 2,.int .i64 5] 350 false),(1,.row (il [2,3,4,5,6,7,7,7,0,0,1,1,2,3,4,4]) 3 false)],.tup [.str [99,99,119,99,119,99,119,99,119,99,119,99,119,99,119,99],.bool true],[]⟩
theorem e299_8:mrB Pt.pr 1000000 299 10000 x299_8=true:=by kernel_rfl
noncomputable def x299_9:Mr:=⟨[.ptr 993 0,.agg [.int .i64 0,.int .i64 0],.int .i64 1],[(993,.row [.slice 1 0 8 16,.slice 1 8 8 8,.int .i64 2,.int .i64 5] 350 false),(1,.row (il [2,3,4,5,6,7,7,7,0,0,1,1,2,3,4,4]) 3 false)],.tup [.str [],.bool false],[]⟩
theorem e299_9:mrB Pt.pr 1000000 299 10000 x299_9=true:=by kernel_rfl
noncomputable def x299_10:Mr:=⟨[.ptr 993 0,.agg [.int .i64 1,.int .i64 1],.int .i64 1],[(993,.row [.slice 1 0 8 16,.slice 1 8 8 8,.int .i64 2,.int .i64 5] 350 false),(1,.row (il [2,3,4,5,6,7,7,7,0,0,1,1,2,3,4,4]) 3 false)],.tup [.str [],.bool false],[]⟩
theorem e299_10:mrB Pt.pr 1000000 299 10000 x299_10=true:=by kernel_rfl
noncomputable def x299_11:Mr:=⟨[.ptr 993 0,.agg [.int .i64 2,.int .i64 2],.int .i64 1],[(993,.row [.slice 1 0 8 16,.slice 1 8 8 8,.int .i64 2,.int .i64 5] 350 false),(1,.row (il [2,3,4,5,6,7,7,7,0,0,1,1,2,3,4,4]) 3 false)],.tup [.str [99],.bool true],[]⟩
theorem e299_11:mrB Pt.pr 1000000 299 10000 x299_11=true:=by kernel_rfl
noncomputable def x299_12:Mr:=⟨[.ptr 993 0,.agg [.int .i64 2,.int .i64 2],.int .i64 2],[(993,.row [.slice 1 0 8 16,.slice 1 8 8 8,.int .i64 2,.int .i64 5] 350 false),(1,.row (il [2,3,4,5,6,7,7,7,0,0,1,1,2,3,4,4]) 3 false)],.tup [.str [99,99],.bool true],[]⟩
theorem e299_12:mrB Pt.pr 1000000 299 10000 x299_12=true:=by kernel_rfl
noncomputable def x299_13:Mr:=⟨[.ptr 993 0,.agg [.int .i64 2,.int .i64 2],.int .i64 3],[(993,.row [.slice 1 0 8 16,.slice 1 8 8 8,.int .i64 2,.int .i64 5] 350 false),(1,.row (il [2,3,4,5,6,7,7,7,0,0,1,1,2,3,4,4]) 3 false)],.tup [.str [99,99,119,99],.bool true],[]⟩
theorem e299_13:mrB Pt.pr 1000000 299 10000 x299_13=true:=by kernel_rfl
noncomputable def x299_14:Mr:=⟨[.ptr 993 0,.agg [.int .i64 2,.int .i64 2],.int .i64 4],[(993,.row [.slice 1 0 8 16,.slice 1 8 8 8,.int .i64 2,.int .i64 5] 350 false),(1,.row (il [2,3,4,5,6,7,7,7,0,0,1,1,2,3,4,4]) 3 false)],.tup [.str [99,99,119,99,119,99],.bool true],[]⟩
theorem e299_14:mrB Pt.pr 1000000 299 10000 x299_14=true:=by kernel_rfl
noncomputable def x299_15:Mr:=⟨[.ptr 993 0,.agg [.int .i64 2,.int .i64 2],.int .i64 5],[(993,.row [.slice 1 0 8 16,.slice 1 8 8 8,.int .i64 2,.int .i64 5] 350 false),(1,.row (il [2,3,4,5,6,7,7,7,0,0,1,1,2,3,4,4]) 3 false)],.tup [.str [99,99,119,99,119,99,119,99],.bool true],[]⟩
theorem e299_15:mrB Pt.pr 1000000 299 10000 x299_15=true:=by kernel_rfl
noncomputable def x299_16:Mr:=⟨[.ptr 993 0,.agg [.int .i64 2,.int .i64 2],.int .i64 6],[(993,.row [.slice 1 0 8 16,.slice 1 8 8 8,.int .i64 2,.int .i64 5] 350 false),(1,.row (il [2,3,4,5,6,7,7,7,0,0,1,1,2,3,4,4]) 3 false)],.tup [.str [99,99,119,99,119,99,119,99,119,99],.bool true],[]⟩
theorem e299_16:mrB Pt.pr 1000000 299 10000 x299_16=true:=by kernel_rfl
noncomputable def x299_17:Mr:=⟨[.ptr 993 0,.agg [.int .i64 2,.int .i64 2],.int .i64 7],[(993,.row [.slice 1 0 8 16,.slice 1 8 8 8,.int .i64 2,.int .i64 5] 350 false),(1,.row (il [2,3,4,5,6,7,7,7,0,0,1,1,2,3,4,4]) 3 false)],.tup [.str [99,99,119,99,119,99,119,99,119,99,119,99],.bool true],[]⟩
theorem e299_17:mrB Pt.pr 1000000 299 10000 x299_17=true:=by kernel_rfl
noncomputable def x299_18:Mr:=⟨[.ptr 993 0,.agg [.int .i64 2,.int .i64 2],.int .i64 8],[(993,.row [.slice 1 0 8 16,.slice 1 8 8 8,.int .i64 2,.int .i64 5] 350 false),(1,.row (il [2,3,4,5,6,7,7,7,0,0,1,1,2,3,4,4]) 3 false)],.tup [.str [99,99,119,99,119,99,119,99,119,99,119,99,119,99],.bool true],[]⟩
theorem e299_18:mrB Pt.pr 1000000 299 10000 x299_18=true:=by kernel_rfl
noncomputable def x299_19:Mr:=⟨[.ptr 993 0,.agg [.int .i64 2,.int .i64 2],.int .i64 9],[(993,.row [.slice 1 0 8 16,.slice 1 8 8 8,.int .i64 2,.int .i64 5] 350 false),(1,.row (il [2,3,4,5,6,7,7,7,0,0,1,1,2,3,4,4]) 3 false)],.tup [.str [99,99,119,99,119,99,119,99,119,99,119,99,119,99,119,99],.bool true],[]⟩
theorem e299_19:mrB Pt.pr 1000000 299 10000 x299_19=true:=by kernel_rfl
noncomputable def x299_20:Mr:=⟨[.ptr 993 0,.agg [.int .i64 3,.int .i64 3],.int .i64 1],[(993,.row [.slice 1 0 8 16,.slice 1 8 8 8,.int .i64 2,.int .i64 5] 350 false),(1,.row (il [2,3,4,5,6,7,7,7,0,0,1,1,2,3,4,4]) 3 false)],.tup [.str [99],.bool true],[]⟩
theorem e299_20:mrB Pt.pr 1000000 299 10000 x299_20=true:=by kernel_rfl
noncomputable def x299_21:Mr:=⟨[.ptr 993 0,.agg [.int .i64 3,.int .i64 3],.int .i64 2],[(993,.row [.slice 1 0 8 16,.slice 1 8 8 8,.int .i64 2,.int .i64 5] 350 false),(1,.row (il [2,3,4,5,6,7,7,7,0,0,1,1,2,3,4,4]) 3 false)],.tup [.str [99,99],.bool true],[]⟩
theorem e299_21:mrB Pt.pr 1000000 299 10000 x299_21=true:=by kernel_rfl
noncomputable def x299_22:Mr:=⟨[.ptr 993 0,.agg [.int .i64 3,.int .i64 3],.int .i64 3],[(993,.row [.slice 1 0 8 16,.slice 1 8 8 8,.int .i64 2,.int .i64 5] 350 false),(1,.row (il [2,3,4,5,6,7,7,7,0,0,1,1,2,3,4,4]) 3 false)],.tup [.str [99,99,119,99],.bool true],[]⟩
theorem e299_22:mrB Pt.pr 1000000 299 10000 x299_22=true:=by kernel_rfl
noncomputable def x299_23:Mr:=⟨[.ptr 993 0,.agg [.int .i64 3,.int .i64 3],.int .i64 4],[(993,.row [.slice 1 0 8 16,.slice 1 8 8 8,.int .i64 2,.int .i64 5] 350 false),(1,.row (il [2,3,4,5,6,7,7,7,0,0,1,1,2,3,4,4]) 3 false)],.tup [.str [99,99,119,99,119,99],.bool true],[]⟩
theorem e299_23:mrB Pt.pr 1000000 299 10000 x299_23=true:=by kernel_rfl
noncomputable def x299_24:Mr:=⟨[.ptr 993 0,.agg [.int .i64 3,.int .i64 3],.int .i64 5],[(993,.row [.slice 1 0 8 16,.slice 1 8 8 8,.int .i64 2,.int .i64 5] 350 false),(1,.row (il [2,3,4,5,6,7,7,7,0,0,1,1,2,3,4,4]) 3 false)],.tup [.str [99,99,119,99,119,99,119,99],.bool true],[]⟩
theorem e299_24:mrB Pt.pr 1000000 299 10000 x299_24=true:=by kernel_rfl
end Go.Proofs.YtljjlhbbcjjmlaaGreatDoor.W07M
