/- Answers of some calls, each by a run of its own. No condition. -/
import Derived.Test.YtmpfljfffljoeaaGreatDoorRunM
import Derived.Test.YtmpfljfffljoeaaGreatDoorPr
namespace Go.Proofs.YtmpfljfffljoeaaGreatDoor.W07M
open Go Go.Proofs Go.Run Go.Eng
set_option maxRecDepth 100000
noncomputable def x330_0 : Mr := ⟨[.ptr 866 0, .agg [.int .i64 3, .int .i64 3], .int .i64 1], [(866, .row [.slice 1 0 8 16, .slice 1 8 8 8, .int .i64 2, .int .i64 5] 371 false), (1, .row (il [2, 3, 4, 5, 6, 7, 7, 7, 0, 0, 1, 1, 2, 3, 4, 4]) 3 false)], .tup [.str [99], .bool true], []⟩
theorem e330_0 : mrB Pt.pr 1000000 330 10000 x330_0 = true := by kernel_rfl
noncomputable def x330_1 : Mr := ⟨[.ptr 866 0, .agg [.int .i64 3, .int .i64 3], .int .i64 2], [(866, .row [.slice 1 0 8 16, .slice 1 8 8 8, .int .i64 2, .int .i64 5] 371 false), (1, .row (il [2, 3, 4, 5, 6, 7, 7, 7, 0, 0, 1, 1, 2, 3, 4, 4]) 3 false)], .tup [.str [99, 99], .bool true], []⟩
theorem e330_1 : mrB Pt.pr 1000000 330 10000 x330_1 = true := by kernel_rfl
noncomputable def x330_2 : Mr := ⟨[.ptr 866 0, .agg [.int .i64 3, .int .i64 3], .int .i64 3], [(866, .row [.slice 1 0 8 16, .slice 1 8 8 8, .int .i64 2, .int .i64 5] 371 false), (1, .row (il [2, 3, 4, 5, 6, 7, 7, 7, 0, 0, 1, 1, 2, 3, 4, 4]) 3 false)], .tup [.str [99, 99, 119, 99], .bool true], []⟩
theorem e330_2 : mrB Pt.pr 1000000 330 10000 x330_2 = true := by kernel_rfl
noncomputable def x330_3 : Mr := ⟨[.ptr 866 0, .agg [.int .i64 3, .int .i64 3], .int .i64 4], [(866, .row [.slice 1 0 8 16, .slice 1 8 8 8, .int .i64 2, .int .i64 5] 371 false), (1, .row (il [2, 3, 4, 5, 6, 7, 7, 7, 0, 0, 1, 1, 2, 3, 4, 4]) 3 false)], .tup [.str [99, 99, 119, 99, 119, 99], .bool true], []⟩
theorem e330_3 : mrB Pt.pr 1000000 330 10000 x330_3 = true := by kernel_rfl
noncomputable def x330_4 : Mr := ⟨[.ptr 866 0, .agg [.int .i64 3, .int .i64 3], .int .i64 5], [(866, .row [.slice 1 0 8 16, .slice 1 8 8 8, .int .i64 2, .int .i64 5] 371 false), (1, .row (il [2, 3, 4, 5, 6, 7, 7, 7, 0, 0, 1, 1, 2, 3, 4, 4]) 3 false)], .tup [.str [99, 99, 119, 99, 119, 99, 119, 99], .bool true], []⟩
theorem e330_4 : mrB Pt.pr 1000000 330 10000 x330_4 = true := by kernel_rfl
noncomputable def x330_5 : Mr := ⟨[.ptr 866 0, .agg [.int .i64 3, .int .i64 3], .int .i64 6], [(866, .row [.slice 1 0 8 16, .slice 1 8 8 8, .int .i64 2, .int .i64 5] 371 false), (1, .row (il [2, 3, 4, 5, 6, 7, 7, 7, 0, 0, 1, 1, 2, 3, 4, 4]) 3 false)], .tup [.str [99, 99, 119, 99, 119, 99, 119, 99, 119, 99], .bool true], []⟩
theorem e330_5 : mrB Pt.pr 1000000 330 10000 x330_5 = true := by kernel_rfl
noncomputable def x330_6 : Mr := ⟨[.ptr 866 0, .agg [.int .i64 3, .int .i64 3], .int .i64 7], [(866, .row [.slice 1 0 8 16, .slice 1 8 8 8, .int .i64 2, .int .i64 5] 371 false), (1, .row (il [2, 3, 4, 5, 6, 7, 7, 7, 0, 0, 1, 1, 2, 3, 4, 4]) 3 false)], .tup [.str [99, 99, 119, 99, 119, 99, 119, 99, 119, 99, 119, 99], .bool true], []⟩
theorem e330_6 : mrB Pt.pr 1000000 330 10000 x330_6 = true := by kernel_rfl
noncomputable def x330_7 : Mr := ⟨[.ptr 866 0, .agg [.int .i64 3, .int .i64 3], .int .i64 8], [(866, .row [.slice 1 0 8 16, .slice 1 8 8 8, .int .i64 2, .int .i64 5] 371 false), (1, .row (il [2, 3, 4, 5, 6, 7, 7, 7, 0, 0, 1, 1, 2, 3, 4, 4]) 3 false)], .tup [.str [99, 99, 119, 99, 119, 99, 119, 99, 119, 99, 119, 99, 119, 99], .bool true], []⟩
theorem e330_7 : mrB Pt.pr 1000000 330 10000 x330_7 = true := by kernel_rfl
noncomputable def x330_8 : Mr := ⟨[.ptr 866 0, .agg [.int .i64 3, .int .i64 3], .int .i64 9], [(866, .row [.slice 1 0 8 16, .slice 1 8 8 8, .int .i64 2, .int .i64 5] 371 false), (1, .row (il [2, 3, 4, 5, 6, 7, 7, 7, 0, 0, 1, 1, 2, 3, 4, 4]) 3 false)], .tup [.str [99, 99, 119, 99, 119, 99, 119, 99, 119, 99, 119, 99, 119, 99, 119, 99], .bool true], []⟩
theorem e330_8 : mrB Pt.pr 1000000 330 10000 x330_8 = true := by kernel_rfl
noncomputable def x330_9 : Mr := ⟨[.ptr 993 0, .agg [.int .i64 0, .int .i64 0], .int .i64 1], [(993, .row [.slice 1 0 8 16, .slice 1 8 8 8, .int .i64 2, .int .i64 5] 371 false), (1, .row (il [2, 3, 4, 5, 6, 7, 7, 7, 0, 0, 1, 1, 2, 3, 4, 4]) 3 false)], .tup [.str [], .bool false], []⟩
theorem e330_9 : mrB Pt.pr 1000000 330 10000 x330_9 = true := by kernel_rfl
noncomputable def x330_10 : Mr := ⟨[.ptr 993 0, .agg [.int .i64 1, .int .i64 1], .int .i64 1], [(993, .row [.slice 1 0 8 16, .slice 1 8 8 8, .int .i64 2, .int .i64 5] 371 false), (1, .row (il [2, 3, 4, 5, 6, 7, 7, 7, 0, 0, 1, 1, 2, 3, 4, 4]) 3 false)], .tup [.str [], .bool false], []⟩
theorem e330_10 : mrB Pt.pr 1000000 330 10000 x330_10 = true := by kernel_rfl
noncomputable def x330_11 : Mr := ⟨[.ptr 993 0, .agg [.int .i64 2, .int .i64 2], .int .i64 1], [(993, .row [.slice 1 0 8 16, .slice 1 8 8 8, .int .i64 2, .int .i64 5] 371 false), (1, .row (il [2, 3, 4, 5, 6, 7, 7, 7, 0, 0, 1, 1, 2, 3, 4, 4]) 3 false)], .tup [.str [99], .bool true], []⟩
theorem e330_11 : mrB Pt.pr 1000000 330 10000 x330_11 = true := by kernel_rfl
noncomputable def x330_12 : Mr := ⟨[.ptr 993 0, .agg [.int .i64 2, .int .i64 2], .int .i64 2], [(993, .row [.slice 1 0 8 16, .slice 1 8 8 8, .int .i64 2, .int .i64 5] 371 false), (1, .row (il [2, 3, 4, 5, 6, 7, 7, 7, 0, 0, 1, 1, 2, 3, 4, 4]) 3 false)], .tup [.str [99, 99], .bool true], []⟩
theorem e330_12 : mrB Pt.pr 1000000 330 10000 x330_12 = true := by kernel_rfl
noncomputable def x330_13 : Mr := ⟨[.ptr 993 0, .agg [.int .i64 2, .int .i64 2], .int .i64 3], [(993, .row [.slice 1 0 8 16, .slice 1 8 8 8, .int .i64 2, .int .i64 5] 371 false), (1, .row (il [2, 3, 4, 5, 6, 7, 7, 7, 0, 0, 1, 1, 2, 3, 4, 4]) 3 false)], .tup [.str [99, 99, 119, 99], .bool true], []⟩
theorem e330_13 : mrB Pt.pr 1000000 330 10000 x330_13 = true := by kernel_rfl
noncomputable def x330_14 : Mr := ⟨[.ptr 993 0, .agg [.int .i64 2, .int .i64 2], .int .i64 4], [(993, .row [.slice 1 0 8 16, .slice 1 8 8 8, .int .i64 2, .int .i64 5] 371 false), (1, .row (il [2, 3, 4, 5, 6, 7, 7, 7, 0, 0, 1, 1, 2, 3, 4, 4]) 3 false)], .tup [.str [99, 99, 119, 99, 119, 99], .bool true], []⟩
theorem e330_14 : mrB Pt.pr 1000000 330 10000 x330_14 = true := by kernel_rfl
noncomputable def x330_15 : Mr := ⟨[.ptr 993 0, .agg [.int .i64 2, .int .i64 2], .int .i64 5], [(993, .row [.slice 1 0 8 16, .slice 1 8 8 8, .int .i64 2, .int .i64 5] 371 false), (1, .row (il [2, 3, 4, 5, 6, 7, 7, 7, 0, 0, 1, 1, 2, 3, 4, 4]) 3 false)], .tup [.str [99, 99, 119, 99, 119, 99, 119, 99], .bool true], []⟩
theorem e330_15 : mrB Pt.pr 1000000 330 10000 x330_15 = true := by kernel_rfl
noncomputable def x330_16 : Mr := ⟨[.ptr 993 0, .agg [.int .i64 2, .int .i64 2], .int .i64 6], [(993, .row [.slice 1 0 8 16, .slice 1 8 8 8, .int .i64 2, .int .i64 5] 371 false), (1, .row (il [2, 3, 4, 5, 6, 7, 7, 7, 0, 0, 1, 1, 2, 3, 4, 4]) 3 false)], .tup [.str [99, 99, 119, 99, 119, 99, 119, 99, 119, 99], .bool true], []⟩
theorem e330_16 : mrB Pt.pr 1000000 330 10000 x330_16 = true := by kernel_rfl
noncomputable def x330_17 : Mr := ⟨[.ptr 993 0, .agg [.int .i64 2, .int .i64 2], .int .i64 7], [(993, .row [.slice 1 0 8 16, .slice 1 8 8 8, .int .i64 2, .int .i64 5] 371 false), (1, .row (il [2, 3, 4, 5, 6, 7, 7, 7, 0, 0, 1, 1, 2, 3, 4, 4]) 3 false)], .tup [.str [99, 99, 119, 99, 119, 99, 119, 99, 119, 99, 119, 99], .bool true], []⟩
theorem e330_17 : mrB Pt.pr 1000000 330 10000 x330_17 = true := by kernel_rfl
noncomputable def x330_18 : Mr := ⟨[.ptr 993 0, .agg [.int .i64 2, .int .i64 2], .int .i64 8], [(993, .row [.slice 1 0 8 16, .slice 1 8 8 8, .int .i64 2, .int .i64 5] 371 false), (1, .row (il [2, 3, 4, 5, 6, 7, 7, 7, 0, 0, 1, 1, 2, 3, 4, 4]) 3 false)], .tup [.str [99, 99, 119, 99, 119, 99, 119, 99, 119, 99, 119, 99, 119, 99], .bool true], []⟩
theorem e330_18 : mrB Pt.pr 1000000 330 10000 x330_18 = true := by kernel_rfl
noncomputable def x330_19 : Mr := ⟨[.ptr 993 0, .agg [.int .i64 2, .int .i64 2], .int .i64 9], [(993, .row [.slice 1 0 8 16, .slice 1 8 8 8, .int .i64 2, .int .i64 5] 371 false), (1, .row (il [2, 3, 4, 5, 6, 7, 7, 7, 0, 0, 1, 1, 2, 3, 4, 4]) 3 false)], .tup [.str [99, 99, 119, 99, 119, 99, 119, 99, 119, 99, 119, 99, 119, 99, 119, 99], .bool true], []⟩
theorem e330_19 : mrB Pt.pr 1000000 330 10000 x330_19 = true := by kernel_rfl
noncomputable def x330_20 : Mr := ⟨[.ptr 993 0, .agg [.int .i64 3, .int .i64 3], .int .i64 1], [(993, .row [.slice 1 0 8 16, .slice 1 8 8 8, .int .i64 2, .int .i64 5] 371 false), (1, .row (il [2, 3, 4, 5, 6, 7, 7, 7, 0, 0, 1, 1, 2, 3, 4, 4]) 3 false)], .tup [.str [99], .bool true], []⟩
theorem e330_20 : mrB Pt.pr 1000000 330 10000 x330_20 = true := by kernel_rfl
noncomputable def x330_21 : Mr := ⟨[.ptr 993 0, .agg [.int .i64 3, .int .i64 3], .int .i64 2], [(993, .row [.slice 1 0 8 16, .slice 1 8 8 8, .int .i64 2, .int .i64 5] 371 false), (1, .row (il [2, 3, 4, 5, 6, 7, 7, 7, 0, 0, 1, 1, 2, 3, 4, 4]) 3 false)], .tup [.str [99, 99], .bool true], []⟩
theorem e330_21 : mrB Pt.pr 1000000 330 10000 x330_21 = true := by kernel_rfl
noncomputable def x330_22 : Mr := ⟨[.ptr 993 0, .agg [.int .i64 3, .int .i64 3], .int .i64 3], [(993, .row [.slice 1 0 8 16, .slice 1 8 8 8, .int .i64 2, .int .i64 5] 371 false), (1, .row (il [2, 3, 4, 5, 6, 7, 7, 7, 0, 0, 1, 1, 2, 3, 4, 4]) 3 false)], .tup [.str [99, 99, 119, 99], .bool true], []⟩
theorem e330_22 : mrB Pt.pr 1000000 330 10000 x330_22 = true := by kernel_rfl
noncomputable def x330_23 : Mr := ⟨[.ptr 993 0, .agg [.int .i64 3, .int .i64 3], .int .i64 4], [(993, .row [.slice 1 0 8 16, .slice 1 8 8 8, .int .i64 2, .int .i64 5] 371 false), (1, .row (il [2, 3, 4, 5, 6, 7, 7, 7, 0, 0, 1, 1, 2, 3, 4, 4]) 3 false)], .tup [.str [99, 99, 119, 99, 119, 99], .bool true], []⟩
theorem e330_23 : mrB Pt.pr 1000000 330 10000 x330_23 = true := by kernel_rfl
noncomputable def x330_24 : Mr := ⟨[.ptr 993 0, .agg [.int .i64 3, .int .i64 3], .int .i64 5], [(993, .row [.slice 1 0 8 16, .slice 1 8 8 8, .int .i64 2, .int .i64 5] 371 false), (1, .row (il [2, 3, 4, 5, 6, 7, 7, 7, 0, 0, 1, 1, 2, 3, 4, 4]) 3 false)], .tup [.str [99, 99, 119, 99, 119, 99, 119, 99], .bool true], []⟩
theorem e330_24 : mrB Pt.pr 1000000 330 10000 x330_24 = true := by kernel_rfl
end Go.Proofs.YtmpfljfffljoeaaGreatDoor.W07M
