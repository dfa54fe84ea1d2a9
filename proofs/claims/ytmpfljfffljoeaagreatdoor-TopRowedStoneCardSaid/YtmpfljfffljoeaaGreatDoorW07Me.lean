/- Answers of some calls, each by a run of its own. No condition. -/
import Derived.Test.YtmpfljfffljoeaaGreatDoorRunM
import Derived.Test.YtmpfljfffljoeaaGreatDoorPr
namespace Go.Proofs.YtmpfljfffljoeaaGreatDoor.W07M
open Go Go.Proofs Go.Run Go.Eng
set_option maxRecDepth 100000
noncomputable def x334_17 : Mr := ⟨[.ptr 1823 0, .agg (il [8, 7, 6, 6, 5, 5, 4, 4, 1048576, 1048576, 1048576, 1048576, 1048576, 1048576, 1048576, 1048576])], [(1823, .row [.slice 1 0 8 16, .slice 1 8 8 8, .int .i64 2, .int .i64 5] 371 false), (1, .row (il [2, 3, 4, 5, 6, 7, 7, 7, 0, 0, 1, 1, 2, 3, 4, 4]) 3 false)], .agg (il [9, 8, 7, 7, 6, 6, 5, 5, 1048576, 1048576, 1048576, 1048576, 1048576, 1048576, 1048576, 1048576]), []⟩
theorem e334_17 : mrB Pt.pr 1000000 334 10000 x334_17 = true := by kernel_rfl
noncomputable def x334_18 : Mr := ⟨[.ptr 1823 0, .agg (il [9, 8, 7, 7, 6, 6, 5, 5, 1048576, 1048576, 1048576, 1048576, 1048576, 1048576, 1048576, 1048576])], [(1823, .row [.slice 1 0 8 16, .slice 1 8 8 8, .int .i64 2, .int .i64 5] 371 false), (1, .row (il [2, 3, 4, 5, 6, 7, 7, 7, 0, 0, 1, 1, 2, 3, 4, 4]) 3 false)], .agg (il [10, 9, 8, 8, 7, 7, 6, 6, 1048576, 1048576, 1048576, 1048576, 1048576, 1048576, 1048576, 1048576]), []⟩
theorem e334_18 : mrB Pt.pr 1000000 334 10000 x334_18 = true := by kernel_rfl
noncomputable def x334_19 : Mr := ⟨[.ptr 1823 0, .agg (il [10, 9, 8, 1048576, 7, 1048576, 6, 1048576, 1048576, 1048576, 1048576, 1048576, 1048576, 1048576, 1048576, 1048576])], [(1823, .row [.slice 1 0 8 16, .slice 1 8 8 8, .int .i64 2, .int .i64 5] 371 false), (1, .row (il [2, 3, 4, 5, 6, 7, 7, 7, 0, 0, 1, 1, 2, 3, 4, 4]) 3 false)], .agg (il [11, 10, 9, 1048576, 8, 1048576, 7, 1048576, 1048576, 1048576, 1048576, 1048576, 1048576, 1048576, 1048576, 1048576]), []⟩
theorem e334_19 : mrB Pt.pr 1000000 334 10000 x334_19 = true := by kernel_rfl
noncomputable def x334_20 : Mr := ⟨[.ptr 1823 0, .agg (il [10, 9, 8, 8, 7, 7, 6, 6, 1048576, 1048576, 1048576, 1048576, 1048576, 1048576, 1048576, 1048576])], [(1823, .row [.slice 1 0 8 16, .slice 1 8 8 8, .int .i64 2, .int .i64 5] 371 false), (1, .row (il [2, 3, 4, 5, 6, 7, 7, 7, 0, 0, 1, 1, 2, 3, 4, 4]) 3 false)], .agg (il [11, 10, 9, 9, 8, 8, 7, 7, 1048576, 1048576, 1048576, 1048576, 1048576, 1048576, 1048576, 1048576]), []⟩
theorem e334_20 : mrB Pt.pr 1000000 334 10000 x334_20 = true := by kernel_rfl
noncomputable def x334_21 : Mr := ⟨[.ptr 1823 0, .agg (il [11, 10, 9, 1048576, 8, 1048576, 7, 1048576, 1048576, 1048576, 1048576, 1048576, 1048576, 1048576, 1048576, 1048576])], [(1823, .row [.slice 1 0 8 16, .slice 1 8 8 8, .int .i64 2, .int .i64 5] 371 false), (1, .row (il [2, 3, 4, 5, 6, 7, 7, 7, 0, 0, 1, 1, 2, 3, 4, 4]) 3 false)], .agg (il [12, 11, 10, 1048576, 9, 1048576, 8, 1048576, 1048576, 1048576, 1048576, 1048576, 1048576, 1048576, 1048576, 1048576]), []⟩
theorem e334_21 : mrB Pt.pr 1000000 334 10000 x334_21 = true := by kernel_rfl
noncomputable def x334_22 : Mr := ⟨[.ptr 1823 0, .agg (il [4, 3, 2, 1048576, 1, 1048576, 1048576, 0, 1048576, 1048576, 1048576, 1048576, 1048576, 1048576, 1048576, 1048576])], [(1823, .row [.slice 1 0 8 16, .slice 1 8 8 8, .int .i64 2, .int .i64 5] 371 false), (1, .row (il [2, 3, 4, 5, 6, 7, 7, 7, 0, 0, 1, 1, 2, 3, 4, 4]) 3 false)], .agg (il [5, 4, 3, 1048576, 2, 1048576, 1, 1048576, 1048576, 1048576, 1048576, 1048576, 1048576, 1048576, 1048576, 1048576]), []⟩
theorem e334_22 : mrB Pt.pr 1000000 334 10000 x334_22 = true := by kernel_rfl
noncomputable def x335_0 : Mr := ⟨[.ptr 1823 0, .int .i64 3, .int .i64 2], [(1823, .row [.slice 1 0 8 16, .slice 1 8 8 8, .int .i64 2, .int .i64 5] 371 false), (1, .row (il [2, 3, 4, 5, 6, 7, 7, 7, 0, 0, 1, 1, 2, 3, 4, 4]) 3 false)], .bool true, []⟩
theorem e335_0 : mrB Pt.pr 1000000 335 10000 x335_0 = true := by kernel_rfl
noncomputable def x335_1 : Mr := ⟨[.ptr 1823 0, .int .i64 3, .int .i64 3], [(1823, .row [.slice 1 0 8 16, .slice 1 8 8 8, .int .i64 2, .int .i64 5] 371 false), (1, .row (il [2, 3, 4, 5, 6, 7, 7, 7, 0, 0, 1, 1, 2, 3, 4, 4]) 3 false)], .bool true, []⟩
theorem e335_1 : mrB Pt.pr 1000000 335 10000 x335_1 = true := by kernel_rfl
noncomputable def x335_2 : Mr := ⟨[.ptr 1823 0, .int .i64 3, .int .i64 4], [(1823, .row [.slice 1 0 8 16, .slice 1 8 8 8, .int .i64 2, .int .i64 5] 371 false), (1, .row (il [2, 3, 4, 5, 6, 7, 7, 7, 0, 0, 1, 1, 2, 3, 4, 4]) 3 false)], .bool true, []⟩
theorem e335_2 : mrB Pt.pr 1000000 335 10000 x335_2 = true := by kernel_rfl
noncomputable def x335_3 : Mr := ⟨[.ptr 1823 0, .int .i64 3, .int .i64 5], [(1823, .row [.slice 1 0 8 16, .slice 1 8 8 8, .int .i64 2, .int .i64 5] 371 false), (1, .row (il [2, 3, 4, 5, 6, 7, 7, 7, 0, 0, 1, 1, 2, 3, 4, 4]) 3 false)], .bool true, []⟩
theorem e335_3 : mrB Pt.pr 1000000 335 10000 x335_3 = true := by kernel_rfl
noncomputable def x335_4 : Mr := ⟨[.ptr 1823 0, .int .i64 3, .int .i64 6], [(1823, .row [.slice 1 0 8 16, .slice 1 8 8 8, .int .i64 2, .int .i64 5] 371 false), (1, .row (il [2, 3, 4, 5, 6, 7, 7, 7, 0, 0, 1, 1, 2, 3, 4, 4]) 3 false)], .bool true, []⟩
theorem e335_4 : mrB Pt.pr 1000000 335 10000 x335_4 = true := by kernel_rfl
end Go.Proofs.YtmpfljfffljoeaaGreatDoor.W07M
