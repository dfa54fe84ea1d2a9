/- Answers of some calls, each by a run of its own. No condition. -/
import Derived.Test.YtmpfljfffljoeaaGreatDoorRunM
import Derived.Test.YtmpfljfffljoeaaGreatDoorPr
namespace Go.Proofs.YtmpfljfffljoeaaGreatDoor.W07M
open Go Go.Proofs Go.Run Go.Eng
set_option maxRecDepth 100000
noncomputable def x330_25 : Mr := ⟨[.ptr 993 0, .agg [.int .i64 3, .int .i64 3], .int .i64 6], [(993, .row [.slice 1 0 8 16, .slice 1 8 8 8, .int .i64 2, .int .i64 5] 371 false), (1, .row (il [2, 3, 4, 5, 6, 7, 7, 7, 0, 0, 1, 1, 2, 3, 4, 4]) 3 false)], .tup [.str [99, 99, 119, 99, 119, 99, 119, 99, 119, 99], .bool true], []⟩
theorem e330_25 : mrB Pt.pr 1000000 330 10000 x330_25 = true := by kernel_rfl
noncomputable def x330_26 : Mr := ⟨[.ptr 993 0, .agg [.int .i64 3, .int .i64 3], .int .i64 7], [(993, .row [.slice 1 0 8 16, .slice 1 8 8 8, .int .i64 2, .int .i64 5] 371 false), (1, .row (il [2, 3, 4, 5, 6, 7, 7, 7, 0, 0, 1, 1, 2, 3, 4, 4]) 3 false)], .tup [.str [99, 99, 119, 99, 119, 99, 119, 99, 119, 99, 119, 99], .bool true], []⟩
theorem e330_26 : mrB Pt.pr 1000000 330 10000 x330_26 = true := by kernel_rfl
noncomputable def x330_27 : Mr := ⟨[.ptr 993 0, .agg [.int .i64 3, .int .i64 3], .int .i64 8], [(993, .row [.slice 1 0 8 16, .slice 1 8 8 8, .int .i64 2, .int .i64 5] 371 false), (1, .row (il [2, 3, 4, 5, 6, 7, 7, 7, 0, 0, 1, 1, 2, 3, 4, 4]) 3 false)], .tup [.str [99, 99, 119, 99, 119, 99, 119, 99, 119, 99, 119, 99, 119, 99], .bool true], []⟩
theorem e330_27 : mrB Pt.pr 1000000 330 10000 x330_27 = true := by kernel_rfl
noncomputable def x330_28 : Mr := ⟨[.ptr 993 0, .agg [.int .i64 3, .int .i64 3], .int .i64 9], [(993, .row [.slice 1 0 8 16, .slice 1 8 8 8, .int .i64 2, .int .i64 5] 371 false), (1, .row (il [2, 3, 4, 5, 6, 7, 7, 7, 0, 0, 1, 1, 2, 3, 4, 4]) 3 false)], .tup [.str [99, 99, 119, 99, 119, 99, 119, 99, 119, 99, 119, 99, 119, 99, 119, 99], .bool true], []⟩
theorem e330_28 : mrB Pt.pr 1000000 330 10000 x330_28 = true := by kernel_rfl
noncomputable def x330_29 : Mr := ⟨[.ptr 993 0, .agg [.int .i64 4, .int .i64 4], .int .i64 1], [(993, .row [.slice 1 0 8 16, .slice 1 8 8 8, .int .i64 2, .int .i64 5] 371 false), (1, .row (il [2, 3, 4, 5, 6, 7, 7, 7, 0, 0, 1, 1, 2, 3, 4, 4]) 3 false)], .tup [.str [99], .bool true], []⟩
theorem e330_29 : mrB Pt.pr 1000000 330 10000 x330_29 = true := by kernel_rfl
noncomputable def x330_30 : Mr := ⟨[.ptr 993 0, .agg [.int .i64 4, .int .i64 4], .int .i64 2], [(993, .row [.slice 1 0 8 16, .slice 1 8 8 8, .int .i64 2, .int .i64 5] 371 false), (1, .row (il [2, 3, 4, 5, 6, 7, 7, 7, 0, 0, 1, 1, 2, 3, 4, 4]) 3 false)], .tup [.str [99, 119, 99], .bool true], []⟩
theorem e330_30 : mrB Pt.pr 1000000 330 10000 x330_30 = true := by kernel_rfl
noncomputable def x330_31 : Mr := ⟨[.ptr 993 0, .agg [.int .i64 4, .int .i64 4], .int .i64 3], [(993, .row [.slice 1 0 8 16, .slice 1 8 8 8, .int .i64 2, .int .i64 5] 371 false), (1, .row (il [2, 3, 4, 5, 6, 7, 7, 7, 0, 0, 1, 1, 2, 3, 4, 4]) 3 false)], .tup [.str [99, 119, 99, 119, 99], .bool true], []⟩
theorem e330_31 : mrB Pt.pr 1000000 330 10000 x330_31 = true := by kernel_rfl
noncomputable def x330_32 : Mr := ⟨[.ptr 993 0, .agg [.int .i64 4, .int .i64 4], .int .i64 4], [(993, .row [.slice 1 0 8 16, .slice 1 8 8 8, .int .i64 2, .int .i64 5] 371 false), (1, .row (il [2, 3, 4, 5, 6, 7, 7, 7, 0, 0, 1, 1, 2, 3, 4, 4]) 3 false)], .tup [.str [99, 119, 99, 119, 99, 119, 99], .bool true], []⟩
theorem e330_32 : mrB Pt.pr 1000000 330 10000 x330_32 = true := by kernel_rfl
noncomputable def x330_33 : Mr := ⟨[.ptr 993 0, .agg [.int .i64 4, .int .i64 4], .int .i64 5], [(993, .row [.slice 1 0 8 16, .slice 1 8 8 8, .int .i64 2, .int .i64 5] 371 false), (1, .row (il [2, 3, 4, 5, 6, 7, 7, 7, 0, 0, 1, 1, 2, 3, 4, 4]) 3 false)], .tup [.str [99, 119, 99, 119, 99, 119, 99, 119, 99], .bool true], []⟩
theorem e330_33 : mrB Pt.pr 1000000 330 10000 x330_33 = true := by kernel_rfl
noncomputable def x330_34 : Mr := ⟨[.ptr 993 0, .agg [.int .i64 4, .int .i64 4], .int .i64 6], [(993, .row [.slice 1 0 8 16, .slice 1 8 8 8, .int .i64 2, .int .i64 5] 371 false), (1, .row (il [2, 3, 4, 5, 6, 7, 7, 7, 0, 0, 1, 1, 2, 3, 4, 4]) 3 false)], .tup [.str [99, 119, 99, 119, 99, 119, 99, 119, 99, 119, 99], .bool true], []⟩
theorem e330_34 : mrB Pt.pr 1000000 330 10000 x330_34 = true := by kernel_rfl
noncomputable def x330_35 : Mr := ⟨[.ptr 993 0, .agg [.int .i64 4, .int .i64 4], .int .i64 7], [(993, .row [.slice 1 0 8 16, .slice 1 8 8 8, .int .i64 2, .int .i64 5] 371 false), (1, .row (il [2, 3, 4, 5, 6, 7, 7, 7, 0, 0, 1, 1, 2, 3, 4, 4]) 3 false)], .tup [.str [99, 119, 99, 119, 99, 119, 99, 119, 99, 119, 99, 119, 99], .bool true], []⟩
theorem e330_35 : mrB Pt.pr 1000000 330 10000 x330_35 = true := by kernel_rfl
noncomputable def x330_36 : Mr := ⟨[.ptr 993 0, .agg [.int .i64 4, .int .i64 4], .int .i64 8], [(993, .row [.slice 1 0 8 16, .slice 1 8 8 8, .int .i64 2, .int .i64 5] 371 false), (1, .row (il [2, 3, 4, 5, 6, 7, 7, 7, 0, 0, 1, 1, 2, 3, 4, 4]) 3 false)], .tup [.str [99, 119, 99, 119, 99, 119, 99, 119, 99, 119, 99, 119, 99, 119, 99], .bool true], []⟩
theorem e330_36 : mrB Pt.pr 1000000 330 10000 x330_36 = true := by kernel_rfl
noncomputable def x330_37 : Mr := ⟨[.ptr 993 0, .agg [.int .i64 4, .int .i64 4], .int .i64 9], [(993, .row [.slice 1 0 8 16, .slice 1 8 8 8, .int .i64 2, .int .i64 5] 371 false), (1, .row (il [2, 3, 4, 5, 6, 7, 7, 7, 0, 0, 1, 1, 2, 3, 4, 4]) 3 false)], .tup [.str [99, 119, 99, 119, 99, 119, 99, 119, 99, 119, 99, 119, 99, 119, 99, 119, 99], .bool true], []⟩
theorem e330_37 : mrB Pt.pr 1000000 330 10000 x330_37 = true := by kernel_rfl
noncomputable def x330_38 : Mr := ⟨[.ptr 993 0, .agg [.int .i64 5, .int .i64 5], .int .i64 1], [(993, .row [.slice 1 0 8 16, .slice 1 8 8 8, .int .i64 2, .int .i64 5] 371 false), (1, .row (il [2, 3, 4, 5, 6, 7, 7, 7, 0, 0, 1, 1, 2, 3, 4, 4]) 3 false)], .tup [.str [99], .bool true], []⟩
theorem e330_38 : mrB Pt.pr 1000000 330 10000 x330_38 = true := by kernel_rfl
noncomputable def x330_39 : Mr := ⟨[.ptr 993 0, .agg [.int .i64 5, .int .i64 5], .int .i64 2], [(993, .row [.slice 1 0 8 16, .slice 1 8 8 8, .int .i64 2, .int .i64 5] 371 false), (1, .row (il [2, 3, 4, 5, 6, 7, 7, 7, 0, 0, 1, 1, 2, 3, 4, 4]) 3 false)], .tup [.str [99, 119, 99], .bool true], []⟩
theorem e330_39 : mrB Pt.pr 1000000 330 10000 x330_39 = true := by kernel_rfl
noncomputable def x330_40 : Mr := ⟨[.ptr 993 0, .agg [.int .i64 5, .int .i64 5], .int .i64 3], [(993, .row [.slice 1 0 8 16, .slice 1 8 8 8, .int .i64 2, .int .i64 5] 371 false), (1, .row (il [2, 3, 4, 5, 6, 7, 7, 7, 0, 0, 1, 1, 2, 3, 4, 4]) 3 false)], .tup [.str [99, 119, 99, 119, 99], .bool true], []⟩
theorem e330_40 : mrB Pt.pr 1000000 330 10000 x330_40 = true := by kernel_rfl
noncomputable def x330_41 : Mr := ⟨[.ptr 993 0, .agg [.int .i64 5, .int .i64 5], .int .i64 4], [(993, .row [.slice 1 0 8 16, .slice 1 8 8 8, .int .i64 2, .int .i64 5] 371 false), (1, .row (il [2, 3, 4, 5, 6, 7, 7, 7, 0, 0, 1, 1, 2, 3, 4, 4]) 3 false)], .tup [.str [99, 119, 99, 119, 99, 119, 99], .bool true], []⟩
theorem e330_41 : mrB Pt.pr 1000000 330 10000 x330_41 = true := by kernel_rfl
noncomputable def x330_42 : Mr := ⟨[.ptr 993 0, .agg [.int .i64 5, .int .i64 5], .int .i64 5], [(993, .row [.slice 1 0 8 16, .slice 1 8 8 8, .int .i64 2, .int .i64 5] 371 false), (1, .row (il [2, 3, 4, 5, 6, 7, 7, 7, 0, 0, 1, 1, 2, 3, 4, 4]) 3 false)], .tup [.str [99, 119, 99, 119, 99, 119, 99, 119, 99], .bool true], []⟩
theorem e330_42 : mrB Pt.pr 1000000 330 10000 x330_42 = true := by kernel_rfl
noncomputable def x330_43 : Mr := ⟨[.ptr 993 0, .agg [.int .i64 5, .int .i64 5], .int .i64 6], [(993, .row [.slice 1 0 8 16, .slice 1 8 8 8, .int .i64 2, .int .i64 5] 371 false), (1, .row (il [2, 3, 4, 5, 6, 7, 7, 7, 0, 0, 1, 1, 2, 3, 4, 4]) 3 false)], .tup [.str [99, 119, 99, 119, 99, 119, 99, 119, 99, 119, 99], .bool true], []⟩
theorem e330_43 : mrB Pt.pr 1000000 330 10000 x330_43 = true := by kernel_rfl
noncomputable def x330_44 : Mr := ⟨[.ptr 993 0, .agg [.int .i64 5, .int .i64 5], .int .i64 7], [(993, .row [.slice 1 0 8 16, .slice 1 8 8 8, .int .i64 2, .int .i64 5] 371 false), (1, .row (il [2, 3, 4, 5, 6, 7, 7, 7, 0, 0, 1, 1, 2, 3, 4, 4]) 3 false)], .tup [.str [99, 119, 99, 119, 99, 119, 99, 119, 99, 119, 99, 119, 99], .bool true], []⟩
theorem e330_44 : mrB Pt.pr 1000000 330 10000 x330_44 = true := by kernel_rfl
noncomputable def x330_45 : Mr := ⟨[.ptr 993 0, .agg [.int .i64 5, .int .i64 5], .int .i64 8], [(993, .row [.slice 1 0 8 16, .slice 1 8 8 8, .int .i64 2, .int .i64 5] 371 false), (1, .row (il [2, 3, 4, 5, 6, 7, 7, 7, 0, 0, 1, 1, 2, 3, 4, 4]) 3 false)], .tup [.str [99, 119, 99, 119, 99, 119, 99, 119, 99, 119, 99, 119, 99, 119, 99], .bool true], []⟩
theorem e330_45 : mrB Pt.pr 1000000 330 10000 x330_45 = true := by kernel_rfl
noncomputable def x330_46 : Mr := ⟨[.ptr 993 0, .agg [.int .i64 5, .int .i64 5], .int .i64 9], [(993, .row [.slice 1 0 8 16, .slice 1 8 8 8, .int .i64 2, .int .i64 5] 371 false), (1, .row (il [2, 3, 4, 5, 6, 7, 7, 7, 0, 0, 1, 1, 2, 3, 4, 4]) 3 false)], .tup [.str [99, 119, 99, 119, 99, 119, 99, 119, 99, 119, 99, 119, 99, 119, 99, 119, 99], .bool true], []⟩
theorem e330_46 : mrB Pt.pr 1000000 330 10000 x330_46 = true := by kernel_rfl
noncomputable def x330_47 : Mr := ⟨[.ptr 993 0, .agg [.int .i64 6, .int .i64 6], .int .i64 1], [(993, .row [.slice 1 0 8 16, .slice 1 8 8 8, .int .i64 2, .int .i64 5] 371 false), (1, .row (il [2, 3, 4, 5, 6, 7, 7, 7, 0, 0, 1, 1, 2, 3, 4, 4]) 3 false)], .tup [.str [119, 99], .bool true], []⟩
theorem e330_47 : mrB Pt.pr 1000000 330 10000 x330_47 = true := by kernel_rfl
noncomputable def x330_48 : Mr := ⟨[.ptr 993 0, .agg [.int .i64 6, .int .i64 6], .int .i64 2], [(993, .row [.slice 1 0 8 16, .slice 1 8 8 8, .int .i64 2, .int .i64 5] 371 false), (1, .row (il [2, 3, 4, 5, 6, 7, 7, 7, 0, 0, 1, 1, 2, 3, 4, 4]) 3 false)], .tup [.str [119, 99, 119, 99], .bool true], []⟩
theorem e330_48 : mrB Pt.pr 1000000 330 10000 x330_48 = true := by kernel_rfl
noncomputable def x330_49 : Mr := ⟨[.ptr 993 0, .agg [.int .i64 6, .int .i64 6], .int .i64 3], [(993, .row [.slice 1 0 8 16, .slice 1 8 8 8, .int .i64 2, .int .i64 5] 371 false), (1, .row (il [2, 3, 4, 5, 6, 7, 7, 7, 0, 0, 1, 1, 2, 3, 4, 4]) 3 false)], .tup [.str [119, 99, 119, 99, 119, 99], .bool true], []⟩
theorem e330_49 : mrB Pt.pr 1000000 330 10000 x330_49 = true := by kernel_rfl
end Go.Proofs.YtmpfljfffljoeaaGreatDoor.W07M
