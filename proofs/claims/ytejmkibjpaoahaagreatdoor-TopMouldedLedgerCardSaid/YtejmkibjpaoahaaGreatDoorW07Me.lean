/- Lemmas. No condition. -/
import Derived.Test.YtejmkibjpaoahaaGreatDoorPr
import Derived.Test.YtejmkibjpaoahaaGreatDoorRunM
namespace Go.Proofs.YtejmkibjpaoahaaGreatDoor.W07M
open Go Go.Proofs Go.Run Go.Eng
set_option maxRecDepth 100000
noncomputable def qe0:Nat×VO:=(1823,.row [.slice 1 0 8 16,.slice 1 8 8 8,ij 2,ij 5] 613 false)
noncomputable def qe1:Nat×VO:=(1,.row (il [2,3,4,5,6,7,7,7,0,0,1,1,2,3,4,4]) 3 false)
noncomputable def x551_17:Mr:=⟨[.ptr 1823 0,.agg (il [8,7,6,6,5,5,4,4,1048576,1048576,1048576,1048576,1048576,1048576,1048576,1048576])],[qe0,qe1],.agg (il [9,8,7,7,6,6,5,5,1048576,1048576,1048576,1048576,1048576,1048576,1048576,1048576]),[]⟩
theorem e551_17:mrB Pt.pr 1000000 551 10000 x551_17=true:=by kernel_rfl
noncomputable def x551_18:Mr:=⟨[.ptr 1823 0,.agg (il [9,8,7,7,6,6,5,5,1048576,1048576,1048576,1048576,1048576,1048576,1048576,1048576])],[qe0,qe1],.agg (il [10,9,8,8,7,7,6,6,1048576,1048576,1048576,1048576,1048576,1048576,1048576,1048576]),[]⟩
theorem e551_18:mrB Pt.pr 1000000 551 10000 x551_18=true:=by kernel_rfl
noncomputable def x551_19:Mr:=⟨[.ptr 1823 0,.agg (il [10,9,8,1048576,7,1048576,6,1048576,1048576,1048576,1048576,1048576,1048576,1048576,1048576,1048576])],[qe0,qe1],.agg (il [11,10,9,1048576,8,1048576,7,1048576,1048576,1048576,1048576,1048576,1048576,1048576,1048576,1048576]),[]⟩
theorem e551_19:mrB Pt.pr 1000000 551 10000 x551_19=true:=by kernel_rfl
noncomputable def x551_20:Mr:=⟨[.ptr 1823 0,.agg (il [10,9,8,8,7,7,6,6,1048576,1048576,1048576,1048576,1048576,1048576,1048576,1048576])],[qe0,qe1],.agg (il [11,10,9,9,8,8,7,7,1048576,1048576,1048576,1048576,1048576,1048576,1048576,1048576]),[]⟩
theorem e551_20:mrB Pt.pr 1000000 551 10000 x551_20=true:=by kernel_rfl
noncomputable def x551_21:Mr:=⟨[.ptr 1823 0,.agg (il [11,10,9,1048576,8,1048576,7,1048576,1048576,1048576,1048576,1048576,1048576,1048576,1048576,1048576])],[qe0,qe1],.agg (il [12,11,10,1048576,9,1048576,8,1048576,1048576,1048576,1048576,1048576,1048576,1048576,1048576,1048576]),[]⟩
theorem e551_21:mrB Pt.pr 1000000 551 10000 x551_21=true:=by kernel_rfl
noncomputable def x551_22:Mr:=⟨[.ptr 1823 0,.agg (il [4,3,2,1048576,1,1048576,1048576,0,1048576,1048576,1048576,1048576,1048576,1048576,1048576,1048576])],[qe0,qe1],.agg (il [5,4,3,1048576,2,1048576,1,1048576,1048576,1048576,1048576,1048576,1048576,1048576,1048576,1048576]),[]⟩
theorem e551_22:mrB Pt.pr 1000000 551 10000 x551_22=true:=by kernel_rfl
noncomputable def x552_0:Mr:=⟨[.ptr 1823 0,ij 3,ij 2],[qe0,qe1],.bool true,[]⟩
theorem e552_0:mrB Pt.pr 1000000 552 10000 x552_0=true:=by kernel_rfl
noncomputable def x552_1:Mr:=⟨[.ptr 1823 0,ij 3,ij 3],[qe0,qe1],.bool true,[]⟩
theorem e552_1:mrB Pt.pr 1000000 552 10000 x552_1=true:=by kernel_rfl
noncomputable def x552_2:Mr:=⟨[.ptr 1823 0,ij 3,ij 4],[qe0,qe1],.bool true,[]⟩
theorem e552_2:mrB Pt.pr 1000000 552 10000 x552_2=true:=by kernel_rfl
noncomputable def x552_3:Mr:=⟨[.ptr 1823 0,ij 3,ij 5],[qe0,qe1],.bool true,[]⟩
theorem e552_3:mrB Pt.pr 1000000 552 10000 x552_3=true:=by kernel_rfl
noncomputable def x552_4:Mr:=⟨[.ptr 1823 0,ij 3,ij 6],[qe0,qe1],.bool true,[]⟩
theorem e552_4:mrB Pt.pr 1000000 552 10000 x552_4=true:=by kernel_rfl
end Go.Proofs.YtejmkibjpaoahaaGreatDoor.W07M
