/- Answers of some calls, each by a run of its own. No condition. -/
import Derived.Test.YtmpfljfffljoeaaGreatDoorRunM
import Derived.Test.YtmpfljfffljoeaaGreatDoorPr
namespace Go.Proofs.YtmpfljfffljoeaaGreatDoor.W07M
open Go Go.Proofs Go.Run Go.Eng
set_option maxRecDepth 100000
noncomputable def x330_50 : Mr := ⟨[.ptr 993 0, .agg [.int .i64 6, .int .i64 6], .int .i64 4], [(993, .row [.slice 1 0 8 16, .slice 1 8 8 8, .int .i64 2, .int .i64 5] 371 false), (1, .row (il [2, 3, 4, 5, 6, 7, 7, 7, 0, 0, 1, 1, 2, 3, 4, 4]) 3 false)], .tup [.str [119, 99, 119, 99, 119, 99, 119, 99], .bool true], []⟩
theorem e330_50 : mrB Pt.pr 1000000 330 10000 x330_50 = true := by kernel_rfl
noncomputable def x330_51 : Mr := ⟨[.ptr 993 0, .agg [.int .i64 6, .int .i64 6], .int .i64 5], [(993, .row [.slice 1 0 8 16, .slice 1 8 8 8, .int .i64 2, .int .i64 5] 371 false), (1, .row (il [2, 3, 4, 5, 6, 7, 7, 7, 0, 0, 1, 1, 2, 3, 4, 4]) 3 false)], .tup [.str [119, 99, 119, 99, 119, 99, 119, 99, 119, 99], .bool true], []⟩
theorem e330_51 : mrB Pt.pr 1000000 330 10000 x330_51 = true := by kernel_rfl
noncomputable def x330_52 : Mr := ⟨[.ptr 993 0, .agg [.int .i64 6, .int .i64 6], .int .i64 6], [(993, .row [.slice 1 0 8 16, .slice 1 8 8 8, .int .i64 2, .int .i64 5] 371 false), (1, .row (il [2, 3, 4, 5, 6, 7, 7, 7, 0, 0, 1, 1, 2, 3, 4, 4]) 3 false)], .tup [.str [119, 99, 119, 99, 119, 99, 119, 99, 119, 99, 119, 99], .bool true], []⟩
theorem e330_52 : mrB Pt.pr 1000000 330 10000 x330_52 = true := by kernel_rfl
noncomputable def x330_53 : Mr := ⟨[.ptr 993 0, .agg [.int .i64 6, .int .i64 6], .int .i64 7], [(993, .row [.slice 1 0 8 16, .slice 1 8 8 8, .int .i64 2, .int .i64 5] 371 false), (1, .row (il [2, 3, 4, 5, 6, 7, 7, 7, 0, 0, 1, 1, 2, 3, 4, 4]) 3 false)], .tup [.str [119, 99, 119, 99, 119, 99, 119, 99, 119, 99, 119, 99, 119, 99], .bool true], []⟩
theorem e330_53 : mrB Pt.pr 1000000 330 10000 x330_53 = true := by kernel_rfl
noncomputable def x330_54 : Mr := ⟨[.ptr 993 0, .agg [.int .i64 6, .int .i64 6], .int .i64 8], [(993, .row [.slice 1 0 8 16, .slice 1 8 8 8, .int .i64 2, .int .i64 5] 371 false), (1, .row (il [2, 3, 4, 5, 6, 7, 7, 7, 0, 0, 1, 1, 2, 3, 4, 4]) 3 false)], .tup [.str [119, 99, 119, 99, 119, 99, 119, 99, 119, 99, 119, 99, 119, 99, 119, 99], .bool true], []⟩
theorem e330_54 : mrB Pt.pr 1000000 330 10000 x330_54 = true := by kernel_rfl
noncomputable def x330_55 : Mr := ⟨[.ptr 993 0, .agg [.int .i64 6, .int .i64 6], .int .i64 9], [(993, .row [.slice 1 0 8 16, .slice 1 8 8 8, .int .i64 2, .int .i64 5] 371 false), (1, .row (il [2, 3, 4, 5, 6, 7, 7, 7, 0, 0, 1, 1, 2, 3, 4, 4]) 3 false)], .tup [.str [119, 99, 119, 99, 119, 99, 119, 99, 119, 99, 119, 99, 119, 99, 119, 99, 119, 99], .bool true], []⟩
theorem e330_55 : mrB Pt.pr 1000000 330 10000 x330_55 = true := by kernel_rfl
noncomputable def x330_56 : Mr := ⟨[.ptr 993 0, .agg [.int .i64 7, .int .i64 7], .int .i64 1], [(993, .row [.slice 1 0 8 16, .slice 1 8 8 8, .int .i64 2, .int .i64 5] 371 false), (1, .row (il [2, 3, 4, 5, 6, 7, 7, 7, 0, 0, 1, 1, 2, 3, 4, 4]) 3 false)], .tup [.str [119, 99], .bool true], []⟩
theorem e330_56 : mrB Pt.pr 1000000 330 10000 x330_56 = true := by kernel_rfl
noncomputable def x330_57 : Mr := ⟨[.ptr 993 0, .agg [.int .i64 7, .int .i64 7], .int .i64 2], [(993, .row [.slice 1 0 8 16, .slice 1 8 8 8, .int .i64 2, .int .i64 5] 371 false), (1, .row (il [2, 3, 4, 5, 6, 7, 7, 7, 0, 0, 1, 1, 2, 3, 4, 4]) 3 false)], .tup [.str [119, 99, 119, 99], .bool true], []⟩
theorem e330_57 : mrB Pt.pr 1000000 330 10000 x330_57 = true := by kernel_rfl
noncomputable def x330_58 : Mr := ⟨[.ptr 993 0, .agg [.int .i64 7, .int .i64 7], .int .i64 3], [(993, .row [.slice 1 0 8 16, .slice 1 8 8 8, .int .i64 2, .int .i64 5] 371 false), (1, .row (il [2, 3, 4, 5, 6, 7, 7, 7, 0, 0, 1, 1, 2, 3, 4, 4]) 3 false)], .tup [.str [119, 99, 119, 99, 119, 99], .bool true], []⟩
theorem e330_58 : mrB Pt.pr 1000000 330 10000 x330_58 = true := by kernel_rfl
noncomputable def x330_59 : Mr := ⟨[.ptr 993 0, .agg [.int .i64 7, .int .i64 7], .int .i64 4], [(993, .row [.slice 1 0 8 16, .slice 1 8 8 8, .int .i64 2, .int .i64 5] 371 false), (1, .row (il [2, 3, 4, 5, 6, 7, 7, 7, 0, 0, 1, 1, 2, 3, 4, 4]) 3 false)], .tup [.str [119, 99, 119, 99, 119, 99, 119, 99], .bool true], []⟩
theorem e330_59 : mrB Pt.pr 1000000 330 10000 x330_59 = true := by kernel_rfl
noncomputable def x330_60 : Mr := ⟨[.ptr 993 0, .agg [.int .i64 7, .int .i64 7], .int .i64 5], [(993, .row [.slice 1 0 8 16, .slice 1 8 8 8, .int .i64 2, .int .i64 5] 371 false), (1, .row (il [2, 3, 4, 5, 6, 7, 7, 7, 0, 0, 1, 1, 2, 3, 4, 4]) 3 false)], .tup [.str [119, 99, 119, 99, 119, 99, 119, 99, 119, 99], .bool true], []⟩
theorem e330_60 : mrB Pt.pr 1000000 330 10000 x330_60 = true := by kernel_rfl
noncomputable def x330_61 : Mr := ⟨[.ptr 993 0, .agg [.int .i64 7, .int .i64 7], .int .i64 6], [(993, .row [.slice 1 0 8 16, .slice 1 8 8 8, .int .i64 2, .int .i64 5] 371 false), (1, .row (il [2, 3, 4, 5, 6, 7, 7, 7, 0, 0, 1, 1, 2, 3, 4, 4]) 3 false)], .tup [.str [119, 99, 119, 99, 119, 99, 119, 99, 119, 99, 119, 99], .bool true], []⟩
theorem e330_61 : mrB Pt.pr 1000000 330 10000 x330_61 = true := by kernel_rfl
noncomputable def x330_62 : Mr := ⟨[.ptr 993 0, .agg [.int .i64 7, .int .i64 7], .int .i64 7], [(993, .row [.slice 1 0 8 16, .slice 1 8 8 8, .int .i64 2, .int .i64 5] 371 false), (1, .row (il [2, 3, 4, 5, 6, 7, 7, 7, 0, 0, 1, 1, 2, 3, 4, 4]) 3 false)], .tup [.str [119, 99, 119, 99, 119, 99, 119, 99, 119, 99, 119, 99, 119, 99], .bool true], []⟩
theorem e330_62 : mrB Pt.pr 1000000 330 10000 x330_62 = true := by kernel_rfl
noncomputable def x330_63 : Mr := ⟨[.ptr 993 0, .agg [.int .i64 7, .int .i64 7], .int .i64 8], [(993, .row [.slice 1 0 8 16, .slice 1 8 8 8, .int .i64 2, .int .i64 5] 371 false), (1, .row (il [2, 3, 4, 5, 6, 7, 7, 7, 0, 0, 1, 1, 2, 3, 4, 4]) 3 false)], .tup [.str [119, 99, 119, 99, 119, 99, 119, 99, 119, 99, 119, 99, 119, 99, 119, 99], .bool true], []⟩
theorem e330_63 : mrB Pt.pr 1000000 330 10000 x330_63 = true := by kernel_rfl
noncomputable def x330_64 : Mr := ⟨[.ptr 993 0, .agg [.int .i64 7, .int .i64 7], .int .i64 9], [(993, .row [.slice 1 0 8 16, .slice 1 8 8 8, .int .i64 2, .int .i64 5] 371 false), (1, .row (il [2, 3, 4, 5, 6, 7, 7, 7, 0, 0, 1, 1, 2, 3, 4, 4]) 3 false)], .tup [.str [119, 99, 119, 99, 119, 99, 119, 99, 119, 99, 119, 99, 119, 99, 119, 99, 119, 99], .bool true], []⟩
theorem e330_64 : mrB Pt.pr 1000000 330 10000 x330_64 = true := by kernel_rfl
noncomputable def x330_65 : Mr := ⟨[.ptr 1657 0, .agg [.int .i64 3, .int .i64 3], .int .i64 1], [(1657, .row [.slice 1 0 8 16, .slice 1 8 8 8, .int .i64 2, .int .i64 5] 371 false), (1, .row (il [2, 3, 4, 5, 6, 7, 7, 7, 0, 0, 1, 1, 2, 3, 4, 4]) 3 false)], .tup [.str [99], .bool true], []⟩
theorem e330_65 : mrB Pt.pr 1000000 330 10000 x330_65 = true := by kernel_rfl
noncomputable def x330_66 : Mr := ⟨[.ptr 1657 0, .agg [.int .i64 3, .int .i64 3], .int .i64 2], [(1657, .row [.slice 1 0 8 16, .slice 1 8 8 8, .int .i64 2, .int .i64 5] 371 false), (1, .row (il [2, 3, 4, 5, 6, 7, 7, 7, 0, 0, 1, 1, 2, 3, 4, 4]) 3 false)], .tup [.str [99, 99], .bool true], []⟩
theorem e330_66 : mrB Pt.pr 1000000 330 10000 x330_66 = true := by kernel_rfl
noncomputable def x330_67 : Mr := ⟨[.ptr 1657 0, .agg [.int .i64 3, .int .i64 3], .int .i64 3], [(1657, .row [.slice 1 0 8 16, .slice 1 8 8 8, .int .i64 2, .int .i64 5] 371 false), (1, .row (il [2, 3, 4, 5, 6, 7, 7, 7, 0, 0, 1, 1, 2, 3, 4, 4]) 3 false)], .tup [.str [99, 99, 119, 99], .bool true], []⟩
theorem e330_67 : mrB Pt.pr 1000000 330 10000 x330_67 = true := by kernel_rfl
noncomputable def x330_68 : Mr := ⟨[.ptr 1657 0, .agg [.int .i64 3, .int .i64 3], .int .i64 4], [(1657, .row [.slice 1 0 8 16, .slice 1 8 8 8, .int .i64 2, .int .i64 5] 371 false), (1, .row (il [2, 3, 4, 5, 6, 7, 7, 7, 0, 0, 1, 1, 2, 3, 4, 4]) 3 false)], .tup [.str [99, 99, 119, 99, 119, 99], .bool true], []⟩
theorem e330_68 : mrB Pt.pr 1000000 330 10000 x330_68 = true := by kernel_rfl
noncomputable def x330_69 : Mr := ⟨[.ptr 1657 0, .agg [.int .i64 3, .int .i64 3], .int .i64 5], [(1657, .row [.slice 1 0 8 16, .slice 1 8 8 8, .int .i64 2, .int .i64 5] 371 false), (1, .row (il [2, 3, 4, 5, 6, 7, 7, 7, 0, 0, 1, 1, 2, 3, 4, 4]) 3 false)], .tup [.str [99, 99, 119, 99, 119, 99, 119, 99], .bool true], []⟩
theorem e330_69 : mrB Pt.pr 1000000 330 10000 x330_69 = true := by kernel_rfl
noncomputable def x330_70 : Mr := ⟨[.ptr 1657 0, .agg [.int .i64 3, .int .i64 3], .int .i64 6], [(1657, .row [.slice 1 0 8 16, .slice 1 8 8 8, .int .i64 2, .int .i64 5] 371 false), (1, .row (il [2, 3, 4, 5, 6, 7, 7, 7, 0, 0, 1, 1, 2, 3, 4, 4]) 3 false)], .tup [.str [99, 99, 119, 99, 119, 99, 119, 99, 119, 99], .bool true], []⟩
theorem e330_70 : mrB Pt.pr 1000000 330 10000 x330_70 = true := by kernel_rfl
noncomputable def x330_71 : Mr := ⟨[.ptr 1657 0, .agg [.int .i64 3, .int .i64 3], .int .i64 7], [(1657, .row [.slice 1 0 8 16, .slice 1 8 8 8, .int .i64 2, .int .i64 5] 371 false), (1, .row (il [2, 3, 4, 5, 6, 7, 7, 7, 0, 0, 1, 1, 2, 3, 4, 4]) 3 false)], .tup [.str [99, 99, 119, 99, 119, 99, 119, 99, 119, 99, 119, 99], .bool true], []⟩
theorem e330_71 : mrB Pt.pr 1000000 330 10000 x330_71 = true := by kernel_rfl
noncomputable def x330_72 : Mr := ⟨[.ptr 1657 0, .agg [.int .i64 3, .int .i64 3], .int .i64 8], [(1657, .row [.slice 1 0 8 16, .slice 1 8 8 8, .int .i64 2, .int .i64 5] 371 false), (1, .row (il [2, 3, 4, 5, 6, 7, 7, 7, 0, 0, 1, 1, 2, 3, 4, 4]) 3 false)], .tup [.str [99, 99, 119, 99, 119, 99, 119, 99, 119, 99, 119, 99, 119, 99], .bool true], []⟩
theorem e330_72 : mrB Pt.pr 1000000 330 10000 x330_72 = true := by kernel_rfl
noncomputable def x330_73 : Mr := ⟨[.ptr 1657 0, .agg [.int .i64 3, .int .i64 3], .int .i64 9], [(1657, .row [.slice 1 0 8 16, .slice 1 8 8 8, .int .i64 2, .int .i64 5] 371 false), (1, .row (il [2, 3, 4, 5, 6, 7, 7, 7, 0, 0, 1, 1, 2, 3, 4, 4]) 3 false)], .tup [.str [99, 99, 119, 99, 119, 99, 119, 99, 119, 99, 119, 99, 119, 99, 119, 99], .bool true], []⟩
theorem e330_73 : mrB Pt.pr 1000000 330 10000 x330_73 = true := by kernel_rfl
noncomputable def x330_74 : Mr := ⟨[.ptr 1823 0, .agg [.int .i64 3, .int .i64 3], .int .i64 1], [(1823, .row [.slice 1 0 8 16, .slice 1 8 8 8, .int .i64 2, .int .i64 5] 371 false), (1, .row (il [2, 3, 4, 5, 6, 7, 7, 7, 0, 0, 1, 1, 2, 3, 4, 4]) 3 false)], .tup [.str [99], .bool true], []⟩
theorem e330_74 : mrB Pt.pr 1000000 330 10000 x330_74 = true := by kernel_rfl
end Go.Proofs.YtmpfljfffljoeaaGreatDoor.W07M
