/- The search trees agree with the program. No condition. -/
import Derived.Test.YtmgkeeefbfefgaaPr
import Derived.Test.YtmgkeeefbfefgaaRunU
import Derived.Laws.Externs
import Derived.KernelRfl
namespace Go.Proofs.Ytmgkeeefbfefgaa.Pt
open Go Go.Proofs Go.Run
set_option maxRecDepth 100000
theorem y0 : mkTI Try.prog 0 = some ⟨1, 0, (.tup []), .other, []⟩ := by kernel_rfl
theorem q0 : TyQ Try.prog 0 (some ⟨1, 0, (.tup []), .other, []⟩) := fun ti h => by cases h; exact ⟨y0, .inl rfl⟩
theorem y1 : mkTI Try.prog 1 = some ⟨1, 8, .nfunc, .func, []⟩ := by kernel_rfl
theorem q1 : TyQ Try.prog 1 (some ⟨1, 8, .nfunc, .func, []⟩) := fun ti h => by cases h; exact ⟨y1, .inl rfl⟩
theorem y2 : mkTI Try.prog 2 = some ⟨1, 8, (.int .i64 0), (.int .i64), []⟩ := by kernel_rfl
theorem q2 : TyQ Try.prog 2 (some ⟨1, 8, (.int .i64 0), (.int .i64), []⟩) := fun ti h => by cases h; exact ⟨y2, .inl rfl⟩
theorem y3 : mkTI Try.prog 3 = some ⟨1, 8, (.int .i64 0), (.int .i64), []⟩ := by kernel_rfl
theorem q3 : TyQ Try.prog 3 (some ⟨1, 8, (.int .i64 0), (.int .i64), []⟩) := fun ti h => by cases h; exact ⟨y3, .inl rfl⟩
theorem y4 : mkTI Try.prog 4 = some ⟨1, 1, (.bool false), .bool, []⟩ := by kernel_rfl
theorem q4 : TyQ Try.prog 4 (some ⟨1, 1, (.bool false), .bool, []⟩) := fun ti h => by cases h; exact ⟨y4, .inl rfl⟩
theorem y5 : mkTI Try.prog 5 = some ⟨1, 1, (.int .u8 0), (.int .u8), []⟩ := by kernel_rfl
theorem q5 : TyQ Try.prog 5 (some ⟨1, 1, (.int .u8 0), (.int .u8), []⟩) := fun ti h => by cases h; exact ⟨y5, .inl rfl⟩
theorem y6 : mkTI Try.prog 6 = some ⟨1, 1, (.int .u8 0), (.int .u8), []⟩ := by kernel_rfl
theorem q6 : TyQ Try.prog 6 (some ⟨1, 1, (.int .u8 0), (.int .u8), []⟩) := fun ti h => by cases h; exact ⟨y6, .inl rfl⟩
theorem y7 : mkTI Try.prog 7 = some ⟨4, 24, (.agg [(.int .i64 0), (.int .i64 0), (.bool false), (.int .u8 0)]), (.strct [(0, 2, 1), (1, 3, 1), (2, 4, 1), (3, 6, 1)]), []⟩ := by kernel_rfl
theorem q7 : TyQ Try.prog 7 (some ⟨4, 24, (.agg [(.int .i64 0), (.int .i64 0), (.bool false), (.int .u8 0)]), (.strct [(0, 2, 1), (1, 3, 1), (2, 4, 1), (3, 6, 1)]), []⟩) := fun ti h => by cases h; exact ⟨y7, .inl rfl⟩
theorem y8 : mkTI Try.prog 8 = some ⟨4, 24, (.agg [(.int .i64 0), (.int .i64 0), (.bool false), (.int .u8 0)]), (.strct [(0, 2, 1), (1, 3, 1), (2, 4, 1), (3, 6, 1)]), []⟩ := by kernel_rfl
theorem q8 : TyQ Try.prog 8 (some ⟨4, 24, (.agg [(.int .i64 0), (.int .i64 0), (.bool false), (.int .u8 0)]), (.strct [(0, 2, 1), (1, 3, 1), (2, 4, 1), (3, 6, 1)]), []⟩) := fun ti h => by cases h; exact ⟨y8, .inl rfl⟩
theorem y9 : mkTI Try.prog 9 = some ⟨1, 16, (.str []), .string, []⟩ := by kernel_rfl
theorem q9 : TyQ Try.prog 9 (some ⟨1, 16, (.str []), .string, []⟩) := fun ti h => by cases h; exact ⟨y9, .inl rfl⟩
theorem y10 : mkTI Try.prog 10 = some ⟨1, 16, (.str []), .string, []⟩ := by kernel_rfl
theorem q10 : TyQ Try.prog 10 (some ⟨1, 16, (.str []), .string, []⟩) := fun ti h => by cases h; exact ⟨y10, .inl rfl⟩
theorem y11 : mkTI Try.prog 11 = some ⟨1, 16, (.str []), .string, []⟩ := by kernel_rfl
theorem q11 : TyQ Try.prog 11 (some ⟨1, 16, (.str []), .string, []⟩) := fun ti h => by cases h; exact ⟨y11, .inl rfl⟩
theorem y12 : mkTI Try.prog 12 = some ⟨1, 8, (.int .u64 0), (.int .u64), []⟩ := by kernel_rfl
theorem q12 : TyQ Try.prog 12 (some ⟨1, 8, (.int .u64 0), (.int .u64), []⟩) := fun ti h => by cases h; exact ⟨y12, .inl rfl⟩
theorem y13 : mkTI Try.prog 13 = some ⟨2, 24, (.agg [(.str []), (.int .u64 0)]), (.strct [(0, 9, 1), (1, 12, 1)]), []⟩ := by kernel_rfl
theorem q13 : TyQ Try.prog 13 (some ⟨2, 24, (.agg [(.str []), (.int .u64 0)]), (.strct [(0, 9, 1), (1, 12, 1)]), []⟩) := fun ti h => by cases h; exact ⟨y13, .inl rfl⟩
theorem y14 : mkTI Try.prog 14 = some ⟨2, 24, (.agg [(.str []), (.int .u64 0)]), (.strct [(0, 9, 1), (1, 12, 1)]), []⟩ := by kernel_rfl
theorem q14 : TyQ Try.prog 14 (some ⟨2, 24, (.agg [(.str []), (.int .u64 0)]), (.strct [(0, 9, 1), (1, 12, 1)]), []⟩) := fun ti h => by cases h; exact ⟨y14, .inl rfl⟩
theorem y15 : mkTI Try.prog 15 = some ⟨1, 8, .nptr, (.ptr 139), []⟩ := by kernel_rfl
theorem q15 : TyQ Try.prog 15 (some ⟨1, 8, .nptr, (.ptr 139), []⟩) := fun ti h => by cases h; exact ⟨y15, .inl rfl⟩
theorem y16 : mkTI Try.prog 16 = some ⟨1, 8, .nptr, (.ptr 142), []⟩ := by kernel_rfl
theorem q16 : TyQ Try.prog 16 (some ⟨1, 8, .nptr, (.ptr 142), []⟩) := fun ti h => by cases h; exact ⟨y16, .inl rfl⟩
theorem y17 : mkTI Try.prog 17 = some ⟨1, 8, .nptr, (.ptr 150), []⟩ := by kernel_rfl
theorem q17 : TyQ Try.prog 17 (some ⟨1, 8, .nptr, (.ptr 150), []⟩) := fun ti h => by cases h; exact ⟨y17, .inl rfl⟩
theorem y18 : mkTI Try.prog 18 = some ⟨1, 8, (.agg [.nptr]), (.strct [(0, 17, 1)]), []⟩ := by kernel_rfl
theorem q18 : TyQ Try.prog 18 (some ⟨1, 8, (.agg [.nptr]), (.strct [(0, 17, 1)]), []⟩) := fun ti h => by cases h; exact ⟨y18, .inl rfl⟩
theorem y19 : mkTI Try.prog 19 = some ⟨1, 8, (.agg [.nptr]), (.strct [(0, 17, 1)]), []⟩ := by kernel_rfl
theorem q19 : TyQ Try.prog 19 (some ⟨1, 8, (.agg [.nptr]), (.strct [(0, 17, 1)]), []⟩) := fun ti h => by cases h; exact ⟨y19, .inl rfl⟩
theorem y20 : mkTI Try.prog 20 = some ⟨1, 16, .niface, .iface, []⟩ := by kernel_rfl
theorem q20 : TyQ Try.prog 20 (some ⟨1, 16, .niface, .iface, []⟩) := fun ti h => by cases h; exact ⟨y20, .inl rfl⟩
theorem y21 : mkTI Try.prog 21 = some ⟨1, 4, (.int .i32 0), (.int .i32), []⟩ := by kernel_rfl
theorem q21 : TyQ Try.prog 21 (some ⟨1, 4, (.int .i32 0), (.int .i32), []⟩) := fun ti h => by cases h; exact ⟨y21, .inl rfl⟩
theorem y22 : mkTI Try.prog 22 = some ⟨1, 24, .nslice, (.slice 58), []⟩ := by kernel_rfl
theorem q22 : TyQ Try.prog 22 (some ⟨1, 24, .nslice, (.slice 58), []⟩) := fun ti h => by cases h; exact ⟨y22, .inl rfl⟩
theorem y23 : mkTI Try.prog 23 = some ⟨3, 40, (.agg [(.int .i64 0), (.int .i64 0), .nslice]), (.strct [(0, 3, 1), (1, 3, 1), (2, 22, 1)]), []⟩ := by kernel_rfl
theorem q23 : TyQ Try.prog 23 (some ⟨3, 40, (.agg [(.int .i64 0), (.int .i64 0), .nslice]), (.strct [(0, 3, 1), (1, 3, 1), (2, 22, 1)]), []⟩) := fun ti h => by cases h; exact ⟨y23, .inl rfl⟩
theorem y24 : mkTI Try.prog 24 = some ⟨3, 40, (.agg [(.int .i64 0), (.int .i64 0), .nslice]), (.strct [(0, 3, 1), (1, 3, 1), (2, 22, 1)]), []⟩ := by kernel_rfl
theorem q24 : TyQ Try.prog 24 (some ⟨3, 40, (.agg [(.int .i64 0), (.int .i64 0), .nslice]), (.strct [(0, 3, 1), (1, 3, 1), (2, 22, 1)]), []⟩) := fun ti h => by cases h; exact ⟨y24, .inl rfl⟩
theorem y25 : mkTI Try.prog 25 = some ⟨1, 24, .nslice, (.slice 3), []⟩ := by kernel_rfl
theorem q25 : TyQ Try.prog 25 (some ⟨1, 24, .nslice, (.slice 3), []⟩) := fun ti h => by cases h; exact ⟨y25, .inl rfl⟩
theorem y26 : mkTI Try.prog 26 = some ⟨1, 8, .nfunc, .func, []⟩ := by kernel_rfl
theorem q26 : TyQ Try.prog 26 (some ⟨1, 8, .nfunc, .func, []⟩) := fun ti h => by cases h; exact ⟨y26, .inl rfl⟩
theorem y27 : mkTI Try.prog 27 = some ⟨1, 8, .nfunc, .func, []⟩ := by kernel_rfl
theorem q27 : TyQ Try.prog 27 (some ⟨1, 8, .nfunc, .func, []⟩) := fun ti h => by cases h; exact ⟨y27, .inl rfl⟩
theorem y28 : mkTI Try.prog 28 = some ⟨1, 8, .nfunc, .func, []⟩ := by kernel_rfl
theorem q28 : TyQ Try.prog 28 (some ⟨1, 8, .nfunc, .func, []⟩) := fun ti h => by cases h; exact ⟨y28, .inl rfl⟩
theorem y29 : mkTI Try.prog 29 = some ⟨1, 8, (.int .i64 0), (.int .i64), []⟩ := by kernel_rfl
theorem q29 : TyQ Try.prog 29 (some ⟨1, 8, (.int .i64 0), (.int .i64), []⟩) := fun ti h => by cases h; exact ⟨y29, .inl rfl⟩
theorem y31 : mkTI Try.prog 31 = some ⟨1, 8, .nfunc, .func, []⟩ := by kernel_rfl
theorem q31 : TyQ Try.prog 31 (some ⟨1, 8, .nfunc, .func, []⟩) := fun ti h => by cases h; exact ⟨y31, .inl rfl⟩
theorem y33 : mkTI Try.prog 33 = some ⟨1, 8, .nfunc, .func, []⟩ := by kernel_rfl
theorem q33 : TyQ Try.prog 33 (some ⟨1, 8, .nfunc, .func, []⟩) := fun ti h => by cases h; exact ⟨y33, .inl rfl⟩
theorem y34 : mkTI Try.prog 34 = some ⟨1, 8, .nfunc, .func, []⟩ := by kernel_rfl
theorem q34 : TyQ Try.prog 34 (some ⟨1, 8, .nfunc, .func, []⟩) := fun ti h => by cases h; exact ⟨y34, .inl rfl⟩
theorem y35 : mkTI Try.prog 35 = some ⟨1, 8, .nfunc, .func, []⟩ := by kernel_rfl
theorem q35 : TyQ Try.prog 35 (some ⟨1, 8, .nfunc, .func, []⟩) := fun ti h => by cases h; exact ⟨y35, .inl rfl⟩
theorem y36 : mkTI Try.prog 36 = some ⟨1, 8, .nfunc, .func, []⟩ := by kernel_rfl
theorem q36 : TyQ Try.prog 36 (some ⟨1, 8, .nfunc, .func, []⟩) := fun ti h => by cases h; exact ⟨y36, .inl rfl⟩
theorem y38 : mkTI Try.prog 38 = some ⟨1, 8, .nfunc, .func, []⟩ := by kernel_rfl
theorem q38 : TyQ Try.prog 38 (some ⟨1, 8, .nfunc, .func, []⟩) := fun ti h => by cases h; exact ⟨y38, .inl rfl⟩
theorem y39 : mkTI Try.prog 39 = some ⟨1, 8, .nfunc, .func, []⟩ := by kernel_rfl
theorem q39 : TyQ Try.prog 39 (some ⟨1, 8, .nfunc, .func, []⟩) := fun ti h => by cases h; exact ⟨y39, .inl rfl⟩
theorem y40 : mkTI Try.prog 40 = some ⟨1, 8, .nfunc, .func, []⟩ := by kernel_rfl
theorem q40 : TyQ Try.prog 40 (some ⟨1, 8, .nfunc, .func, []⟩) := fun ti h => by cases h; exact ⟨y40, .inl rfl⟩
theorem y41 : mkTI Try.prog 41 = some ⟨1, 8, .nfunc, .func, []⟩ := by kernel_rfl
theorem q41 : TyQ Try.prog 41 (some ⟨1, 8, .nfunc, .func, []⟩) := fun ti h => by cases h; exact ⟨y41, .inl rfl⟩
theorem y42 : mkTI Try.prog 42 = some ⟨1, 24, .nslice, (.slice 5), []⟩ := by kernel_rfl
theorem q42 : TyQ Try.prog 42 (some ⟨1, 24, .nslice, (.slice 5), []⟩) := fun ti h => by cases h; exact ⟨y42, .inl rfl⟩
theorem y44 : mkTI Try.prog 44 = some ⟨1, 8, .nfunc, .func, []⟩ := by kernel_rfl
theorem q44 : TyQ Try.prog 44 (some ⟨1, 8, .nfunc, .func, []⟩) := fun ti h => by cases h; exact ⟨y44, .inl rfl⟩
theorem y45 : mkTI Try.prog 45 = some ⟨1, 8, .nfunc, .func, []⟩ := by kernel_rfl
theorem q45 : TyQ Try.prog 45 (some ⟨1, 8, .nfunc, .func, []⟩) := fun ti h => by cases h; exact ⟨y45, .inl rfl⟩
theorem y46 : mkTI Try.prog 46 = some ⟨1, 8, .nfunc, .func, []⟩ := by kernel_rfl
theorem q46 : TyQ Try.prog 46 (some ⟨1, 8, .nfunc, .func, []⟩) := fun ti h => by cases h; exact ⟨y46, .inl rfl⟩
theorem y47 : mkTI Try.prog 47 = some ⟨1, 8, .nfunc, .func, []⟩ := by kernel_rfl
theorem q47 : TyQ Try.prog 47 (some ⟨1, 8, .nfunc, .func, []⟩) := fun ti h => by cases h; exact ⟨y47, .inl rfl⟩
theorem y48 : mkTI Try.prog 48 = some ⟨1, 8, .nfunc, .func, []⟩ := by kernel_rfl
theorem q48 : TyQ Try.prog 48 (some ⟨1, 8, .nfunc, .func, []⟩) := fun ti h => by cases h; exact ⟨y48, .inl rfl⟩
theorem y49 : mkTI Try.prog 49 = some ⟨1, 2, (.int .u16 0), (.int .u16), []⟩ := by kernel_rfl
theorem q49 : TyQ Try.prog 49 (some ⟨1, 2, (.int .u16 0), (.int .u16), []⟩) := fun ti h => by cases h; exact ⟨y49, .inl rfl⟩
theorem y51 : mkTI Try.prog 51 = some ⟨1, 8, .nfunc, .func, []⟩ := by kernel_rfl
theorem q51 : TyQ Try.prog 51 (some ⟨1, 8, .nfunc, .func, []⟩) := fun ti h => by cases h; exact ⟨y51, .inl rfl⟩
theorem y52 : mkTI Try.prog 52 = some ⟨1, 8, .nfunc, .func, []⟩ := by kernel_rfl
theorem q52 : TyQ Try.prog 52 (some ⟨1, 8, .nfunc, .func, []⟩) := fun ti h => by cases h; exact ⟨y52, .inl rfl⟩
theorem y53 : mkTI Try.prog 53 = some ⟨1, 8, .nfunc, .func, []⟩ := by kernel_rfl
theorem q53 : TyQ Try.prog 53 (some ⟨1, 8, .nfunc, .func, []⟩) := fun ti h => by cases h; exact ⟨y53, .inl rfl⟩
theorem y54 : mkTI Try.prog 54 = some ⟨1, 8, .nfunc, .func, []⟩ := by kernel_rfl
theorem q54 : TyQ Try.prog 54 (some ⟨1, 8, .nfunc, .func, []⟩) := fun ti h => by cases h; exact ⟨y54, .inl rfl⟩
theorem y55 : mkTI Try.prog 55 = some ⟨1, 8, .nfunc, .func, []⟩ := by kernel_rfl
theorem q55 : TyQ Try.prog 55 (some ⟨1, 8, .nfunc, .func, []⟩) := fun ti h => by cases h; exact ⟨y55, .inl rfl⟩
theorem y56 : mkTI Try.prog 56 = some ⟨1, 8, .nfunc, .func, []⟩ := by kernel_rfl
theorem q56 : TyQ Try.prog 56 (some ⟨1, 8, .nfunc, .func, []⟩) := fun ti h => by cases h; exact ⟨y56, .inl rfl⟩
theorem y57 : mkTI Try.prog 57 = some ⟨2, 16, (.agg [(.int .i64 0), (.int .i64 0)]), (.strct [(0, 3, 1), (1, 3, 1)]), []⟩ := by kernel_rfl
theorem q57 : TyQ Try.prog 57 (some ⟨2, 16, (.agg [(.int .i64 0), (.int .i64 0)]), (.strct [(0, 3, 1), (1, 3, 1)]), []⟩) := fun ti h => by cases h; exact ⟨y57, .inl rfl⟩
theorem y58 : mkTI Try.prog 58 = some ⟨2, 16, (.agg [(.int .i64 0), (.int .i64 0)]), (.strct [(0, 3, 1), (1, 3, 1)]), []⟩ := by kernel_rfl
theorem z58 : flT Try.prog 58 = [.i, .i] := by kernel_rfl
theorem q58 : TyQ Try.prog 58 (some ⟨2, 16, (.agg [(.int .i64 0), (.int .i64 0)]), (.strct [(0, 3, 1), (1, 3, 1)]), [.i, .i]⟩) := fun ti h => by cases h; exact ⟨y58, .inr z58⟩
theorem y59 : mkTI Try.prog 59 = some ⟨1, 8, .nfunc, .func, []⟩ := by kernel_rfl
theorem q59 : TyQ Try.prog 59 (some ⟨1, 8, .nfunc, .func, []⟩) := fun ti h => by cases h; exact ⟨y59, .inl rfl⟩
theorem y60 : mkTI Try.prog 60 = some ⟨1, 8, .nfunc, .func, []⟩ := by kernel_rfl
theorem q60 : TyQ Try.prog 60 (some ⟨1, 8, .nfunc, .func, []⟩) := fun ti h => by cases h; exact ⟨y60, .inl rfl⟩
theorem y61 : mkTI Try.prog 61 = some ⟨1, 8, .nfunc, .func, []⟩ := by kernel_rfl
theorem q61 : TyQ Try.prog 61 (some ⟨1, 8, .nfunc, .func, []⟩) := fun ti h => by cases h; exact ⟨y61, .inl rfl⟩
theorem y62 : mkTI Try.prog 62 = some ⟨1, 8, .nfunc, .func, []⟩ := by kernel_rfl
theorem q62 : TyQ Try.prog 62 (some ⟨1, 8, .nfunc, .func, []⟩) := fun ti h => by cases h; exact ⟨y62, .inl rfl⟩
theorem y63 : mkTI Try.prog 63 = some ⟨1, 8, .nfunc, .func, []⟩ := by kernel_rfl
theorem q63 : TyQ Try.prog 63 (some ⟨1, 8, .nfunc, .func, []⟩) := fun ti h => by cases h; exact ⟨y63, .inl rfl⟩
theorem y64 : mkTI Try.prog 64 = some ⟨1, 8, .nptr, (.ptr 99), []⟩ := by kernel_rfl
theorem q64 : TyQ Try.prog 64 (some ⟨1, 8, .nptr, (.ptr 99), []⟩) := fun ti h => by cases h; exact ⟨y64, .inl rfl⟩
theorem y66 : mkTI Try.prog 66 = some ⟨1, 8, .nfunc, .func, []⟩ := by kernel_rfl
theorem q66 : TyQ Try.prog 66 (some ⟨1, 8, .nfunc, .func, []⟩) := fun ti h => by cases h; exact ⟨y66, .inl rfl⟩
theorem y67 : mkTI Try.prog 67 = some ⟨6, 48, (.agg [(.int .i64 0), (.int .i64 0), (.int .i64 0), (.int .i64 0), (.int .i64 0), (.int .i64 0)]), (.array 6 3), []⟩ := by kernel_rfl
theorem q67 : TyQ Try.prog 67 (some ⟨6, 48, (.agg [(.int .i64 0), (.int .i64 0), (.int .i64 0), (.int .i64 0), (.int .i64 0), (.int .i64 0)]), (.array 6 3), []⟩) := fun ti h => by cases h; exact ⟨y67, .inl rfl⟩
theorem y68 : mkTI Try.prog 68 = some ⟨6, 48, (.agg [(.int .i64 0), (.int .i64 0), (.int .i64 0), (.int .i64 0), (.int .i64 0), (.int .i64 0)]), (.array 6 3), []⟩ := by kernel_rfl
theorem z68 : flT Try.prog 68 = (List.replicate 6 .i) := by kernel_rfl
theorem q68 : TyQ Try.prog 68 (some ⟨6, 48, (.agg [(.int .i64 0), (.int .i64 0), (.int .i64 0), (.int .i64 0), (.int .i64 0), (.int .i64 0)]), (.array 6 3), (List.replicate 6 .i)⟩) := fun ti h => by cases h; exact ⟨y68, .inr z68⟩
theorem y70 : mkTI Try.prog 70 = some ⟨1, 8, .nfunc, .func, []⟩ := by kernel_rfl
theorem q70 : TyQ Try.prog 70 (some ⟨1, 8, .nfunc, .func, []⟩) := fun ti h => by cases h; exact ⟨y70, .inl rfl⟩
theorem y72 : mkTI Try.prog 72 = some ⟨1, 8, .nfunc, .func, []⟩ := by kernel_rfl
theorem q72 : TyQ Try.prog 72 (some ⟨1, 8, .nfunc, .func, []⟩) := fun ti h => by cases h; exact ⟨y72, .inl rfl⟩
theorem y73 : mkTI Try.prog 73 = some ⟨1, 8, .nfunc, .func, []⟩ := by kernel_rfl
theorem q73 : TyQ Try.prog 73 (some ⟨1, 8, .nfunc, .func, []⟩) := fun ti h => by cases h; exact ⟨y73, .inl rfl⟩
theorem y74 : mkTI Try.prog 74 = some ⟨1, 8, .nfunc, .func, []⟩ := by kernel_rfl
theorem q74 : TyQ Try.prog 74 (some ⟨1, 8, .nfunc, .func, []⟩) := fun ti h => by cases h; exact ⟨y74, .inl rfl⟩
theorem y75 : mkTI Try.prog 75 = some ⟨1, 8, .nfunc, .func, []⟩ := by kernel_rfl
theorem q75 : TyQ Try.prog 75 (some ⟨1, 8, .nfunc, .func, []⟩) := fun ti h => by cases h; exact ⟨y75, .inl rfl⟩
theorem y76 : mkTI Try.prog 76 = some ⟨1, 8, .nfunc, .func, []⟩ := by kernel_rfl
theorem q76 : TyQ Try.prog 76 (some ⟨1, 8, .nfunc, .func, []⟩) := fun ti h => by cases h; exact ⟨y76, .inl rfl⟩
theorem y77 : mkTI Try.prog 77 = some ⟨1, 8, .nfunc, .func, []⟩ := by kernel_rfl
theorem q77 : TyQ Try.prog 77 (some ⟨1, 8, .nfunc, .func, []⟩) := fun ti h => by cases h; exact ⟨y77, .inl rfl⟩
theorem y78 : mkTI Try.prog 78 = some ⟨1, 8, .nfunc, .func, []⟩ := by kernel_rfl
theorem q78 : TyQ Try.prog 78 (some ⟨1, 8, .nfunc, .func, []⟩) := fun ti h => by cases h; exact ⟨y78, .inl rfl⟩
theorem y79 : mkTI Try.prog 79 = some ⟨1, 8, .nfunc, .func, []⟩ := by kernel_rfl
theorem q79 : TyQ Try.prog 79 (some ⟨1, 8, .nfunc, .func, []⟩) := fun ti h => by cases h; exact ⟨y79, .inl rfl⟩
theorem y80 : mkTI Try.prog 80 = some ⟨1, 8, .nfunc, .func, []⟩ := by kernel_rfl
theorem q80 : TyQ Try.prog 80 (some ⟨1, 8, .nfunc, .func, []⟩) := fun ti h => by cases h; exact ⟨y80, .inl rfl⟩
theorem y81 : mkTI Try.prog 81 = some ⟨1, 8, .nfunc, .func, []⟩ := by kernel_rfl
theorem q81 : TyQ Try.prog 81 (some ⟨1, 8, .nfunc, .func, []⟩) := fun ti h => by cases h; exact ⟨y81, .inl rfl⟩
theorem y82 : mkTI Try.prog 82 = some ⟨1, 8, .nfunc, .func, []⟩ := by kernel_rfl
theorem q82 : TyQ Try.prog 82 (some ⟨1, 8, .nfunc, .func, []⟩) := fun ti h => by cases h; exact ⟨y82, .inl rfl⟩
theorem y83 : mkTI Try.prog 83 = some ⟨1, 8, .nmap, (.map 3 3), []⟩ := by kernel_rfl
theorem q83 : TyQ Try.prog 83 (some ⟨1, 8, .nmap, (.map 3 3), []⟩) := fun ti h => by cases h; exact ⟨y83, .inl rfl⟩
theorem y84 : mkTI Try.prog 84 = some ⟨1, 8, .nfunc, .func, []⟩ := by kernel_rfl
theorem q84 : TyQ Try.prog 84 (some ⟨1, 8, .nfunc, .func, []⟩) := fun ti h => by cases h; exact ⟨y84, .inl rfl⟩
theorem y85 : mkTI Try.prog 85 = some ⟨1, 8, .nfunc, .func, []⟩ := by kernel_rfl
theorem q85 : TyQ Try.prog 85 (some ⟨1, 8, .nfunc, .func, []⟩) := fun ti h => by cases h; exact ⟨y85, .inl rfl⟩
theorem y86 : mkTI Try.prog 86 = some ⟨1, 8, .nfunc, .func, []⟩ := by kernel_rfl
theorem q86 : TyQ Try.prog 86 (some ⟨1, 8, .nfunc, .func, []⟩) := fun ti h => by cases h; exact ⟨y86, .inl rfl⟩
theorem y87 : mkTI Try.prog 87 = some ⟨1, 8, .nfunc, .func, []⟩ := by kernel_rfl
theorem q87 : TyQ Try.prog 87 (some ⟨1, 8, .nfunc, .func, []⟩) := fun ti h => by cases h; exact ⟨y87, .inl rfl⟩
theorem y88 : mkTI Try.prog 88 = some ⟨1, 8, .nfunc, .func, []⟩ := by kernel_rfl
theorem q88 : TyQ Try.prog 88 (some ⟨1, 8, .nfunc, .func, []⟩) := fun ti h => by cases h; exact ⟨y88, .inl rfl⟩
theorem y89 : mkTI Try.prog 89 = some ⟨1, 8, .nfunc, .func, []⟩ := by kernel_rfl
theorem q89 : TyQ Try.prog 89 (some ⟨1, 8, .nfunc, .func, []⟩) := fun ti h => by cases h; exact ⟨y89, .inl rfl⟩
theorem y90 : mkTI Try.prog 90 = some ⟨1, 8, .nfunc, .func, []⟩ := by kernel_rfl
theorem q90 : TyQ Try.prog 90 (some ⟨1, 8, .nfunc, .func, []⟩) := fun ti h => by cases h; exact ⟨y90, .inl rfl⟩
theorem y91 : mkTI Try.prog 91 = some ⟨1, 8, .nfunc, .func, []⟩ := by kernel_rfl
theorem q91 : TyQ Try.prog 91 (some ⟨1, 8, .nfunc, .func, []⟩) := fun ti h => by cases h; exact ⟨y91, .inl rfl⟩
theorem y92 : mkTI Try.prog 92 = some ⟨1, 8, .nfunc, .func, []⟩ := by kernel_rfl
theorem q92 : TyQ Try.prog 92 (some ⟨1, 8, .nfunc, .func, []⟩) := fun ti h => by cases h; exact ⟨y92, .inl rfl⟩
theorem y93 : mkTI Try.prog 93 = some ⟨1, 8, .nfunc, .func, []⟩ := by kernel_rfl
theorem q93 : TyQ Try.prog 93 (some ⟨1, 8, .nfunc, .func, []⟩) := fun ti h => by cases h; exact ⟨y93, .inl rfl⟩
theorem y94 : mkTI Try.prog 94 = some ⟨1, 8, .nfunc, .func, []⟩ := by kernel_rfl
theorem q94 : TyQ Try.prog 94 (some ⟨1, 8, .nfunc, .func, []⟩) := fun ti h => by cases h; exact ⟨y94, .inl rfl⟩
theorem y95 : mkTI Try.prog 95 = some ⟨1, 8, .nfunc, .func, []⟩ := by kernel_rfl
theorem q95 : TyQ Try.prog 95 (some ⟨1, 8, .nfunc, .func, []⟩) := fun ti h => by cases h; exact ⟨y95, .inl rfl⟩
theorem y96 : mkTI Try.prog 96 = some ⟨1, 8, .nfunc, .func, []⟩ := by kernel_rfl
theorem q96 : TyQ Try.prog 96 (some ⟨1, 8, .nfunc, .func, []⟩) := fun ti h => by cases h; exact ⟨y96, .inl rfl⟩
theorem y97 : mkTI Try.prog 97 = some ⟨1, 8, .nmap, (.map 101 3), []⟩ := by kernel_rfl
theorem q97 : TyQ Try.prog 97 (some ⟨1, 8, .nmap, (.map 101 3), []⟩) := fun ti h => by cases h; exact ⟨y97, .inl rfl⟩
theorem y98 : mkTI Try.prog 98 = some ⟨4, 48, (.agg [(.int .i64 0), (.int .i64 0), .nslice, .nmap]), (.strct [(0, 24, 3), (3, 97, 1)]), []⟩ := by kernel_rfl
theorem q98 : TyQ Try.prog 98 (some ⟨4, 48, (.agg [(.int .i64 0), (.int .i64 0), .nslice, .nmap]), (.strct [(0, 24, 3), (3, 97, 1)]), []⟩) := fun ti h => by cases h; exact ⟨y98, .inl rfl⟩
theorem y99 : mkTI Try.prog 99 = some ⟨4, 48, (.agg [(.int .i64 0), (.int .i64 0), .nslice, .nmap]), (.strct [(0, 24, 3), (3, 97, 1)]), []⟩ := by kernel_rfl
theorem q99 : TyQ Try.prog 99 (some ⟨4, 48, (.agg [(.int .i64 0), (.int .i64 0), .nslice, .nmap]), (.strct [(0, 24, 3), (3, 97, 1)]), []⟩) := fun ti h => by cases h; exact ⟨y99, .inl rfl⟩
theorem y100 : mkTI Try.prog 100 = some ⟨3, 24, (.agg [(.int .i64 0), (.int .i64 0), (.int .i64 0)]), (.strct [(0, 3, 1), (1, 3, 1), (2, 3, 1)]), []⟩ := by kernel_rfl
theorem q100 : TyQ Try.prog 100 (some ⟨3, 24, (.agg [(.int .i64 0), (.int .i64 0), (.int .i64 0)]), (.strct [(0, 3, 1), (1, 3, 1), (2, 3, 1)]), []⟩) := fun ti h => by cases h; exact ⟨y100, .inl rfl⟩
theorem y101 : mkTI Try.prog 101 = some ⟨3, 24, (.agg [(.int .i64 0), (.int .i64 0), (.int .i64 0)]), (.strct [(0, 3, 1), (1, 3, 1), (2, 3, 1)]), []⟩ := by kernel_rfl
theorem z101 : flT Try.prog 101 = [.i, .i, .i] := by kernel_rfl
theorem q101 : TyQ Try.prog 101 (some ⟨3, 24, (.agg [(.int .i64 0), (.int .i64 0), (.int .i64 0)]), (.strct [(0, 3, 1), (1, 3, 1), (2, 3, 1)]), [.i, .i, .i]⟩) := fun ti h => by cases h; exact ⟨y101, .inr z101⟩
theorem y102 : mkTI Try.prog 102 = some ⟨6, 48, (.agg [(.int .i64 0), (.int .i64 0), (.int .i64 0), (.int .i64 0), (.int .i64 0), (.int .i64 0)]), (.array 2 101), []⟩ := by kernel_rfl
theorem q102 : TyQ Try.prog 102 (some ⟨6, 48, (.agg [(.int .i64 0), (.int .i64 0), (.int .i64 0), (.int .i64 0), (.int .i64 0), (.int .i64 0)]), (.array 2 101), []⟩) := fun ti h => by cases h; exact ⟨y102, .inl rfl⟩
theorem y103 : mkTI Try.prog 103 = some ⟨1, 8, .nfunc, .func, []⟩ := by kernel_rfl
theorem q103 : TyQ Try.prog 103 (some ⟨1, 8, .nfunc, .func, []⟩) := fun ti h => by cases h; exact ⟨y103, .inl rfl⟩
theorem y105 : mkTI Try.prog 105 = some ⟨1, 8, .nfunc, .func, []⟩ := by kernel_rfl
theorem q105 : TyQ Try.prog 105 (some ⟨1, 8, .nfunc, .func, []⟩) := fun ti h => by cases h; exact ⟨y105, .inl rfl⟩
theorem y106 : mkTI Try.prog 106 = some ⟨1, 8, .nfunc, .func, []⟩ := by kernel_rfl
theorem q106 : TyQ Try.prog 106 (some ⟨1, 8, .nfunc, .func, []⟩) := fun ti h => by cases h; exact ⟨y106, .inl rfl⟩
theorem y107 : mkTI Try.prog 107 = some ⟨1, 8, .nfunc, .func, []⟩ := by kernel_rfl
theorem q107 : TyQ Try.prog 107 (some ⟨1, 8, .nfunc, .func, []⟩) := fun ti h => by cases h; exact ⟨y107, .inl rfl⟩
theorem y108 : mkTI Try.prog 108 = some ⟨1, 8, .nfunc, .func, []⟩ := by kernel_rfl
theorem q108 : TyQ Try.prog 108 (some ⟨1, 8, .nfunc, .func, []⟩) := fun ti h => by cases h; exact ⟨y108, .inl rfl⟩
theorem y109 : mkTI Try.prog 109 = some ⟨1, 8, .nfunc, .func, []⟩ := by kernel_rfl
theorem q109 : TyQ Try.prog 109 (some ⟨1, 8, .nfunc, .func, []⟩) := fun ti h => by cases h; exact ⟨y109, .inl rfl⟩
theorem y110 : mkTI Try.prog 110 = some ⟨1, 8, .nfunc, .func, []⟩ := by kernel_rfl
theorem q110 : TyQ Try.prog 110 (some ⟨1, 8, .nfunc, .func, []⟩) := fun ti h => by cases h; exact ⟨y110, .inl rfl⟩
theorem y111 : mkTI Try.prog 111 = some ⟨1, 8, (.int .u64 0), (.int .u64), []⟩ := by kernel_rfl
theorem q111 : TyQ Try.prog 111 (some ⟨1, 8, (.int .u64 0), (.int .u64), []⟩) := fun ti h => by cases h; exact ⟨y111, .inl rfl⟩
theorem y112 : mkTI Try.prog 112 = some ⟨1, 8, .nfunc, .func, []⟩ := by kernel_rfl
theorem q112 : TyQ Try.prog 112 (some ⟨1, 8, .nfunc, .func, []⟩) := fun ti h => by cases h; exact ⟨y112, .inl rfl⟩
theorem y113 : mkTI Try.prog 113 = some ⟨1, 8, .nfunc, .func, []⟩ := by kernel_rfl
theorem q113 : TyQ Try.prog 113 (some ⟨1, 8, .nfunc, .func, []⟩) := fun ti h => by cases h; exact ⟨y113, .inl rfl⟩
theorem y114 : mkTI Try.prog 114 = some ⟨1, 8, .nfunc, .func, []⟩ := by kernel_rfl
theorem q114 : TyQ Try.prog 114 (some ⟨1, 8, .nfunc, .func, []⟩) := fun ti h => by cases h; exact ⟨y114, .inl rfl⟩
theorem y115 : mkTI Try.prog 115 = some ⟨1, 8, .nfunc, .func, []⟩ := by kernel_rfl
theorem q115 : TyQ Try.prog 115 (some ⟨1, 8, .nfunc, .func, []⟩) := fun ti h => by cases h; exact ⟨y115, .inl rfl⟩
theorem y116 : mkTI Try.prog 116 = some ⟨1, 8, .nfunc, .func, []⟩ := by kernel_rfl
theorem q116 : TyQ Try.prog 116 (some ⟨1, 8, .nfunc, .func, []⟩) := fun ti h => by cases h; exact ⟨y116, .inl rfl⟩
theorem y117 : mkTI Try.prog 117 = some ⟨1, 8, (.int .i64 0), (.int .i64), []⟩ := by kernel_rfl
theorem q117 : TyQ Try.prog 117 (some ⟨1, 8, (.int .i64 0), (.int .i64), []⟩) := fun ti h => by cases h; exact ⟨y117, .inl rfl⟩
theorem y119 : mkTI Try.prog 119 = some ⟨1, 8, .nfunc, .func, []⟩ := by kernel_rfl
theorem q119 : TyQ Try.prog 119 (some ⟨1, 8, .nfunc, .func, []⟩) := fun ti h => by cases h; exact ⟨y119, .inl rfl⟩
theorem y120 : mkTI Try.prog 120 = some ⟨1, 8, .nfunc, .func, []⟩ := by kernel_rfl
theorem q120 : TyQ Try.prog 120 (some ⟨1, 8, .nfunc, .func, []⟩) := fun ti h => by cases h; exact ⟨y120, .inl rfl⟩
theorem y121 : mkTI Try.prog 121 = some ⟨1, 8, .nfunc, .func, []⟩ := by kernel_rfl
theorem q121 : TyQ Try.prog 121 (some ⟨1, 8, .nfunc, .func, []⟩) := fun ti h => by cases h; exact ⟨y121, .inl rfl⟩
theorem y122 : mkTI Try.prog 122 = some ⟨1, 8, .nfunc, .func, []⟩ := by kernel_rfl
theorem q122 : TyQ Try.prog 122 (some ⟨1, 8, .nfunc, .func, []⟩) := fun ti h => by cases h; exact ⟨y122, .inl rfl⟩
theorem y123 : mkTI Try.prog 123 = some ⟨1, 4, (.int .u32 0), (.int .u32), []⟩ := by kernel_rfl
theorem q123 : TyQ Try.prog 123 (some ⟨1, 4, (.int .u32 0), (.int .u32), []⟩) := fun ti h => by cases h; exact ⟨y123, .inl rfl⟩
theorem y124 : mkTI Try.prog 124 = some ⟨1, 8, .nfunc, .func, []⟩ := by kernel_rfl
theorem q124 : TyQ Try.prog 124 (some ⟨1, 8, .nfunc, .func, []⟩) := fun ti h => by cases h; exact ⟨y124, .inl rfl⟩
theorem y125 : mkTI Try.prog 125 = some ⟨1, 8, (.int .u64 0), (.int .u64), []⟩ := by kernel_rfl
theorem q125 : TyQ Try.prog 125 (some ⟨1, 8, (.int .u64 0), (.int .u64), []⟩) := fun ti h => by cases h; exact ⟨y125, .inl rfl⟩
theorem y126 : mkTI Try.prog 126 = some ⟨1, 8, .nfunc, .func, []⟩ := by kernel_rfl
theorem q126 : TyQ Try.prog 126 (some ⟨1, 8, .nfunc, .func, []⟩) := fun ti h => by cases h; exact ⟨y126, .inl rfl⟩
theorem y127 : mkTI Try.prog 127 = some ⟨1, 8, .nfunc, .func, []⟩ := by kernel_rfl
theorem q127 : TyQ Try.prog 127 (some ⟨1, 8, .nfunc, .func, []⟩) := fun ti h => by cases h; exact ⟨y127, .inl rfl⟩
theorem y128 : mkTI Try.prog 128 = some ⟨1, 8, (.int .u64 0), (.int .u64), []⟩ := by kernel_rfl
theorem q128 : TyQ Try.prog 128 (some ⟨1, 8, (.int .u64 0), (.int .u64), []⟩) := fun ti h => by cases h; exact ⟨y128, .inl rfl⟩
theorem y129 : mkTI Try.prog 129 = some ⟨1, 8, .nfunc, .func, []⟩ := by kernel_rfl
theorem q129 : TyQ Try.prog 129 (some ⟨1, 8, .nfunc, .func, []⟩) := fun ti h => by cases h; exact ⟨y129, .inl rfl⟩
theorem y130 : mkTI Try.prog 130 = some ⟨1, 8, .nfunc, .func, []⟩ := by kernel_rfl
theorem q130 : TyQ Try.prog 130 (some ⟨1, 8, .nfunc, .func, []⟩) := fun ti h => by cases h; exact ⟨y130, .inl rfl⟩
theorem y131 : mkTI Try.prog 131 = some ⟨1, 8, .nfunc, .func, []⟩ := by kernel_rfl
theorem q131 : TyQ Try.prog 131 (some ⟨1, 8, .nfunc, .func, []⟩) := fun ti h => by cases h; exact ⟨y131, .inl rfl⟩
theorem y132 : mkTI Try.prog 132 = some ⟨1, 8, .nptr, (.ptr 3), []⟩ := by kernel_rfl
theorem q132 : TyQ Try.prog 132 (some ⟨1, 8, .nptr, (.ptr 3), []⟩) := fun ti h => by cases h; exact ⟨y132, .inl rfl⟩
theorem y133 : mkTI Try.prog 133 = some ⟨1, 8, .nfunc, .func, []⟩ := by kernel_rfl
theorem q133 : TyQ Try.prog 133 (some ⟨1, 8, .nfunc, .func, []⟩) := fun ti h => by cases h; exact ⟨y133, .inl rfl⟩
theorem y134 : mkTI Try.prog 134 = some ⟨1, 8, .nptr, (.ptr 128), []⟩ := by kernel_rfl
theorem q134 : TyQ Try.prog 134 (some ⟨1, 8, .nptr, (.ptr 128), []⟩) := fun ti h => by cases h; exact ⟨y134, .inl rfl⟩
theorem y136 : mkTI Try.prog 136 = some ⟨1, 8, .nfunc, .func, []⟩ := by kernel_rfl
theorem q136 : TyQ Try.prog 136 (some ⟨1, 8, .nfunc, .func, []⟩) := fun ti h => by cases h; exact ⟨y136, .inl rfl⟩
theorem y137 : mkTI Try.prog 137 = some ⟨1, 8, .nfunc, .func, []⟩ := by kernel_rfl
theorem q137 : TyQ Try.prog 137 (some ⟨1, 8, .nfunc, .func, []⟩) := fun ti h => by cases h; exact ⟨y137, .inl rfl⟩
theorem y138 : mkTI Try.prog 138 = some ⟨4, 40, (.agg [.nptr, .nptr, .nptr, (.str [])]), (.strct [(0, 17, 1), (1, 17, 1), (2, 17, 1), (3, 9, 1)]), []⟩ := by kernel_rfl
theorem q138 : TyQ Try.prog 138 (some ⟨4, 40, (.agg [.nptr, .nptr, .nptr, (.str [])]), (.strct [(0, 17, 1), (1, 17, 1), (2, 17, 1), (3, 9, 1)]), []⟩) := fun ti h => by cases h; exact ⟨y138, .inl rfl⟩
theorem y139 : mkTI Try.prog 139 = some ⟨4, 40, (.agg [.nptr, .nptr, .nptr, (.str [])]), (.strct [(0, 17, 1), (1, 17, 1), (2, 17, 1), (3, 9, 1)]), []⟩ := by kernel_rfl
theorem q139 : TyQ Try.prog 139 (some ⟨4, 40, (.agg [.nptr, .nptr, .nptr, (.str [])]), (.strct [(0, 17, 1), (1, 17, 1), (2, 17, 1), (3, 9, 1)]), []⟩) := fun ti h => by cases h; exact ⟨y139, .inl rfl⟩
theorem y140 : mkTI Try.prog 140 = some ⟨0, 0, (.agg []), (.array 0 16), []⟩ := by kernel_rfl
theorem q140 : TyQ Try.prog 140 (some ⟨0, 0, (.agg []), (.array 0 16), []⟩) := fun ti h => by cases h; exact ⟨y140, .inl rfl⟩
theorem y141 : mkTI Try.prog 141 = some ⟨0, 0, (.agg []), (.strct [(0, 140, 0)]), []⟩ := by kernel_rfl
theorem q141 : TyQ Try.prog 141 (some ⟨0, 0, (.agg []), (.strct [(0, 140, 0)]), []⟩) := fun ti h => by cases h; exact ⟨y141, .inl rfl⟩
theorem y142 : mkTI Try.prog 142 = some ⟨0, 0, (.agg []), (.strct [(0, 140, 0)]), []⟩ := by kernel_rfl
theorem q142 : TyQ Try.prog 142 (some ⟨0, 0, (.agg []), (.strct [(0, 140, 0)]), []⟩) := fun ti h => by cases h; exact ⟨y142, .inl rfl⟩
theorem y143 : mkTI Try.prog 143 = some ⟨1, 1, (.int .u8 0), (.int .u8), []⟩ := by kernel_rfl
theorem q143 : TyQ Try.prog 143 (some ⟨1, 1, (.int .u8 0), (.int .u8), []⟩) := fun ti h => by cases h; exact ⟨y143, .inl rfl⟩
theorem y144 : mkTI Try.prog 144 = some ⟨1, 1, (.int .u8 0), (.int .u8), []⟩ := by kernel_rfl
theorem q144 : TyQ Try.prog 144 (some ⟨1, 1, (.int .u8 0), (.int .u8), []⟩) := fun ti h => by cases h; exact ⟨y144, .inl rfl⟩
theorem y145 : mkTI Try.prog 145 = some ⟨1, 8, .nfunc, .func, []⟩ := by kernel_rfl
theorem q145 : TyQ Try.prog 145 (some ⟨1, 8, .nfunc, .func, []⟩) := fun ti h => by cases h; exact ⟨y145, .inl rfl⟩
theorem y146 : mkTI Try.prog 146 = some ⟨1, 8, .nptr, (.ptr 5), []⟩ := by kernel_rfl
theorem q146 : TyQ Try.prog 146 (some ⟨1, 8, .nptr, (.ptr 5), []⟩) := fun ti h => by cases h; exact ⟨y146, .inl rfl⟩
theorem y147 : mkTI Try.prog 147 = some ⟨1, 4, (.int .i32 0), (.int .i32), []⟩ := by kernel_rfl
theorem q147 : TyQ Try.prog 147 (some ⟨1, 4, (.int .i32 0), (.int .i32), []⟩) := fun ti h => by cases h; exact ⟨y147, .inl rfl⟩
theorem y148 : mkTI Try.prog 148 = some ⟨1, 4, (.int .i32 0), (.int .i32), []⟩ := by kernel_rfl
theorem q148 : TyQ Try.prog 148 (some ⟨1, 4, (.int .i32 0), (.int .i32), []⟩) := fun ti h => by cases h; exact ⟨y148, .inl rfl⟩
theorem y149 : mkTI Try.prog 149 = some ⟨11, 48, (.agg [(.int .u64 0), (.int .u64 0), (.int .u32 0), (.int .u8 0), (.int .u8 0), (.int .u8 0), (.int .u8 0), .nfunc, .nptr, (.int .i32 0), (.int .i32 0)]), (.strct [(0, 12, 1), (1, 12, 1), (2, 123, 1), (3, 143, 1), (4, 5, 1), (5, 5, 1), (6, 144, 1), (7, 145, 1), (8, 146, 1), (9, 147, 1), (10, 148, 1)]), []⟩ := by kernel_rfl
theorem q149 : TyQ Try.prog 149 (some ⟨11, 48, (.agg [(.int .u64 0), (.int .u64 0), (.int .u32 0), (.int .u8 0), (.int .u8 0), (.int .u8 0), (.int .u8 0), .nfunc, .nptr, (.int .i32 0), (.int .i32 0)]), (.strct [(0, 12, 1), (1, 12, 1), (2, 123, 1), (3, 143, 1), (4, 5, 1), (5, 5, 1), (6, 144, 1), (7, 145, 1), (8, 146, 1), (9, 147, 1), (10, 148, 1)]), []⟩) := fun ti h => by cases h; exact ⟨y149, .inl rfl⟩
theorem y150 : mkTI Try.prog 150 = some ⟨11, 48, (.agg [(.int .u64 0), (.int .u64 0), (.int .u32 0), (.int .u8 0), (.int .u8 0), (.int .u8 0), (.int .u8 0), .nfunc, .nptr, (.int .i32 0), (.int .i32 0)]), (.strct [(0, 12, 1), (1, 12, 1), (2, 123, 1), (3, 143, 1), (4, 5, 1), (5, 5, 1), (6, 144, 1), (7, 145, 1), (8, 146, 1), (9, 147, 1), (10, 148, 1)]), []⟩ := by kernel_rfl
theorem q150 : TyQ Try.prog 150 (some ⟨11, 48, (.agg [(.int .u64 0), (.int .u64 0), (.int .u32 0), (.int .u8 0), (.int .u8 0), (.int .u8 0), (.int .u8 0), .nfunc, .nptr, (.int .i32 0), (.int .i32 0)]), (.strct [(0, 12, 1), (1, 12, 1), (2, 123, 1), (3, 143, 1), (4, 5, 1), (5, 5, 1), (6, 144, 1), (7, 145, 1), (8, 146, 1), (9, 147, 1), (10, 148, 1)]), []⟩) := fun ti h => by cases h; exact ⟨y150, .inl rfl⟩
theorem y151 : mkTI Try.prog 151 = some ⟨1, 8, .nptr, .other, []⟩ := by kernel_rfl
theorem q151 : TyQ Try.prog 151 (some ⟨1, 8, .nptr, .other, []⟩) := fun ti h => by cases h; exact ⟨y151, .inl rfl⟩
theorem g2 : FnQ Try.prog 2 (some ff2) := fun fi h => by cases h; kernel_rfl
theorem g3 : FnQ Try.prog 3 (some ff3) := fun fi h => by cases h; kernel_rfl
theorem g4 : FnQ Try.prog 4 (some ff4) := fun fi h => by cases h; kernel_rfl
theorem g5 : FnQ Try.prog 5 (some ff5) := fun fi h => by cases h; kernel_rfl
theorem g6 : FnQ Try.prog 6 (some ff6) := fun fi h => by cases h; kernel_rfl
theorem g7 : FnQ Try.prog 7 (some ff7) := fun fi h => by cases h; kernel_rfl
theorem g8 : FnQ Try.prog 8 (some ff8) := fun fi h => by cases h; kernel_rfl
theorem g9 : FnQ Try.prog 9 (some ff9) := fun fi h => by cases h; kernel_rfl
theorem g10 : FnQ Try.prog 10 (some ff10) := fun fi h => by cases h; kernel_rfl
theorem g11 : FnQ Try.prog 11 (some ff11) := fun fi h => by cases h; kernel_rfl
theorem g12 : FnQ Try.prog 12 (some ff12) := fun fi h => by cases h; kernel_rfl
theorem g13 : FnQ Try.prog 13 (some ff13) := fun fi h => by cases h; kernel_rfl
theorem g14 : FnQ Try.prog 14 (some ff14) := fun fi h => by cases h; kernel_rfl
theorem g15 : FnQ Try.prog 15 (some ff15) := fun fi h => by cases h; kernel_rfl
theorem g16 : FnQ Try.prog 16 (some ff16) := fun fi h => by cases h; kernel_rfl
theorem g17 : FnQ Try.prog 17 (some ff17) := fun fi h => by cases h; kernel_rfl
theorem g18 : FnQ Try.prog 18 (some ff18) := fun fi h => by cases h; kernel_rfl
theorem g19 : FnQ Try.prog 19 (some ff19) := fun fi h => by cases h; kernel_rfl
theorem g20 : FnQ Try.prog 20 (some ff20) := fun fi h => by cases h; kernel_rfl
theorem g21 : FnQ Try.prog 21 (some ff21) := fun fi h => by cases h; kernel_rfl
theorem g22 : FnQ Try.prog 22 (some ff22) := fun fi h => by cases h; kernel_rfl
theorem g23 : FnQ Try.prog 23 (some ff23) := fun fi h => by cases h; kernel_rfl
theorem g24 : FnQ Try.prog 24 (some ff24) := fun fi h => by cases h; kernel_rfl
theorem g25 : FnQ Try.prog 25 (some ff25) := fun fi h => by cases h; kernel_rfl
theorem g26 : FnQ Try.prog 26 (some ff26) := fun fi h => by cases h; kernel_rfl
theorem g27 : FnQ Try.prog 27 (some ff27) := fun fi h => by cases h; kernel_rfl
theorem g28 : FnQ Try.prog 28 (some ff28) := fun fi h => by cases h; kernel_rfl
theorem g29 : FnQ Try.prog 29 (some ff29) := fun fi h => by cases h; kernel_rfl
theorem g30 : FnQ Try.prog 30 (some ff30) := fun fi h => by cases h; kernel_rfl
theorem g31 : FnQ Try.prog 31 (some ff31) := fun fi h => by cases h; kernel_rfl
theorem g32 : FnQ Try.prog 32 (some ff32) := fun fi h => by cases h; kernel_rfl
theorem g33 : FnQ Try.prog 33 (some ff33) := fun fi h => by cases h; kernel_rfl
theorem g34 : FnQ Try.prog 34 (some ff34) := fun fi h => by cases h; kernel_rfl
theorem g35 : FnQ Try.prog 35 (some ff35) := fun fi h => by cases h; kernel_rfl
theorem g36 : FnQ Try.prog 36 (some ff36) := fun fi h => by cases h; kernel_rfl
theorem g37 : FnQ Try.prog 37 (some ff37) := fun fi h => by cases h; kernel_rfl
theorem g38 : FnQ Try.prog 38 (some ff38) := fun fi h => by cases h; kernel_rfl
theorem g39 : FnQ Try.prog 39 (some ff39) := fun fi h => by cases h; kernel_rfl
theorem g40 : FnQ Try.prog 40 (some ff40) := fun fi h => by cases h; kernel_rfl
theorem g41 : FnQ Try.prog 41 (some ff41) := fun fi h => by cases h; kernel_rfl
theorem g42 : FnQ Try.prog 42 (some ff42) := fun fi h => by cases h; kernel_rfl
theorem g43 : FnQ Try.prog 43 (some ff43) := fun fi h => by cases h; kernel_rfl
theorem g44 : FnQ Try.prog 44 (some ff44) := fun fi h => by cases h; kernel_rfl
theorem g45 : FnQ Try.prog 45 (some ff45) := fun fi h => by cases h; kernel_rfl
theorem g46 : FnQ Try.prog 46 (some ff46) := fun fi h => by cases h; kernel_rfl
theorem g47 : FnQ Try.prog 47 (some ff47) := fun fi h => by cases h; kernel_rfl
theorem g48 : FnQ Try.prog 48 (some ff48) := fun fi h => by cases h; kernel_rfl
theorem g49 : FnQ Try.prog 49 (some ff49) := fun fi h => by cases h; kernel_rfl
theorem g50 : FnQ Try.prog 50 (some ff50) := fun fi h => by cases h; kernel_rfl
theorem g51 : FnQ Try.prog 51 (some ff51) := fun fi h => by cases h; kernel_rfl
theorem g52 : FnQ Try.prog 52 (some ff52) := fun fi h => by cases h; kernel_rfl
theorem g53 : FnQ Try.prog 53 (some ff53) := fun fi h => by cases h; kernel_rfl
theorem g54 : FnQ Try.prog 54 (some ff54) := fun fi h => by cases h; kernel_rfl
theorem g55 : FnQ Try.prog 55 (some ff55) := fun fi h => by cases h; kernel_rfl
theorem g56 : FnQ Try.prog 56 (some ff56) := fun fi h => by cases h; kernel_rfl
theorem g57 : FnQ Try.prog 57 (some ff57) := fun fi h => by cases h; kernel_rfl
theorem g58 : FnQ Try.prog 58 (some ff58) := fun fi h => by cases h; kernel_rfl
theorem g59 : FnQ Try.prog 59 (some ff59) := fun fi h => by cases h; kernel_rfl
theorem g60 : FnQ Try.prog 60 (some ff60) := fun fi h => by cases h; kernel_rfl
theorem g61 : FnQ Try.prog 61 (some ff61) := fun fi h => by cases h; kernel_rfl
theorem g62 : FnQ Try.prog 62 (some ff62) := fun fi h => by cases h; kernel_rfl
theorem g63 : FnQ Try.prog 63 (some ff63) := fun fi h => by cases h; kernel_rfl
theorem g64 : FnQ Try.prog 64 (some ff64) := fun fi h => by cases h; kernel_rfl
theorem g65 : FnQ Try.prog 65 (some ff65) := fun fi h => by cases h; kernel_rfl
theorem g66 : FnQ Try.prog 66 (some ff66) := fun fi h => by cases h; kernel_rfl
theorem g67 : FnQ Try.prog 67 (some ff67) := fun fi h => by cases h; kernel_rfl
theorem g68 : FnQ Try.prog 68 (some ff68) := fun fi h => by cases h; kernel_rfl
theorem g69 : FnQ Try.prog 69 (some ff69) := fun fi h => by cases h; kernel_rfl
theorem g70 : FnQ Try.prog 70 (some ff70) := fun fi h => by cases h; kernel_rfl
theorem g71 : FnQ Try.prog 71 (some ff71) := fun fi h => by cases h; kernel_rfl
theorem g72 : FnQ Try.prog 72 (some ff72) := fun fi h => by cases h; kernel_rfl
theorem g73 : FnQ Try.prog 73 (some ff73) := fun fi h => by cases h; kernel_rfl
theorem g74 : FnQ Try.prog 74 (some ff74) := fun fi h => by cases h; kernel_rfl
theorem g75 : FnQ Try.prog 75 (some ff75) := fun fi h => by cases h; kernel_rfl
theorem g76 : FnQ Try.prog 76 (some ff76) := fun fi h => by cases h; kernel_rfl
theorem g77 : FnQ Try.prog 77 (some ff77) := fun fi h => by cases h; kernel_rfl
theorem g78 : FnQ Try.prog 78 (some ff78) := fun fi h => by cases h; kernel_rfl
theorem g79 : FnQ Try.prog 79 (some ff79) := fun fi h => by cases h; kernel_rfl
theorem g80 : FnQ Try.prog 80 (some ff80) := fun fi h => by cases h; kernel_rfl
theorem g81 : FnQ Try.prog 81 (some ff81) := fun fi h => by cases h; kernel_rfl
theorem g82 : FnQ Try.prog 82 (some ff82) := fun fi h => by cases h; kernel_rfl
theorem g83 : FnQ Try.prog 83 (some ff83) := fun fi h => by cases h; kernel_rfl
theorem g84 : FnQ Try.prog 84 (some ff84) := fun fi h => by cases h; kernel_rfl
theorem g85 : FnQ Try.prog 85 (some ff85) := fun fi h => by cases h; kernel_rfl
theorem g86 : FnQ Try.prog 86 (some ff86) := fun fi h => by cases h; kernel_rfl
theorem g87 : FnQ Try.prog 87 (some ff87) := fun fi h => by cases h; kernel_rfl
theorem g88 : FnQ Try.prog 88 (some ff88) := fun fi h => by cases h; kernel_rfl
theorem g89 : FnQ Try.prog 89 (some ff89) := fun fi h => by cases h; kernel_rfl
theorem g90 : FnQ Try.prog 90 (some ff90) := fun fi h => by cases h; kernel_rfl
theorem g91 : FnQ Try.prog 91 (some ff91) := fun fi h => by cases h; kernel_rfl
theorem g92 : FnQ Try.prog 92 (some ff92) := fun fi h => by cases h; kernel_rfl
theorem g93 : FnQ Try.prog 93 (some ff93) := fun fi h => by cases h; kernel_rfl
theorem g94 : FnQ Try.prog 94 (some ff94) := fun fi h => by cases h; kernel_rfl
theorem g95 : FnQ Try.prog 95 (some ff95) := fun fi h => by cases h; kernel_rfl
theorem g96 : FnQ Try.prog 96 (some ff96) := fun fi h => by cases h; kernel_rfl
theorem g97 : FnQ Try.prog 97 (some ff97) := fun fi h => by cases h; kernel_rfl
theorem g98 : FnQ Try.prog 98 (some ff98) := fun fi h => by cases h; kernel_rfl
theorem g99 : FnQ Try.prog 99 (some ff99) := fun fi h => by cases h; kernel_rfl
theorem g100 : FnQ Try.prog 100 (some ff100) := fun fi h => by cases h; kernel_rfl
theorem g101 : FnQ Try.prog 101 (some ff101) := fun fi h => by cases h; kernel_rfl
theorem g102 : FnQ Try.prog 102 (some ff102) := fun fi h => by cases h; kernel_rfl
theorem g103 : FnQ Try.prog 103 (some ff103) := fun fi h => by cases h; kernel_rfl
theorem g104 : FnQ Try.prog 104 (some ff104) := fun fi h => by cases h; kernel_rfl
theorem g105 : FnQ Try.prog 105 (some ff105) := fun fi h => by cases h; kernel_rfl
theorem g106 : FnQ Try.prog 106 (some ff106) := fun fi h => by cases h; kernel_rfl
theorem g107 : FnQ Try.prog 107 (some ff107) := fun fi h => by cases h; kernel_rfl
theorem g108 : FnQ Try.prog 108 (some ff108) := fun fi h => by cases h; kernel_rfl
theorem g109 : FnQ Try.prog 109 (some ff109) := fun fi h => by cases h; kernel_rfl
theorem g110 : FnQ Try.prog 110 (some ff110) := fun fi h => by cases h; kernel_rfl
theorem g111 : FnQ Try.prog 111 (some ff111) := fun fi h => by cases h; kernel_rfl
theorem g112 : FnQ Try.prog 112 (some ff112) := fun fi h => by cases h; kernel_rfl
theorem g113 : FnQ Try.prog 113 (some ff113) := fun fi h => by cases h; kernel_rfl
theorem g114 : FnQ Try.prog 114 (some ff114) := fun fi h => by cases h; kernel_rfl
theorem g115 : FnQ Try.prog 115 (some ff115) := fun fi h => by cases h; kernel_rfl
theorem g116 : FnQ Try.prog 116 (some ff116) := fun fi h => by cases h; kernel_rfl
theorem g117 : FnQ Try.prog 117 (some ff117) := fun fi h => by cases h; kernel_rfl
theorem g118 : FnQ Try.prog 118 (some ff118) := fun fi h => by cases h; kernel_rfl
theorem g119 : FnQ Try.prog 119 (some ff119) := fun fi h => by cases h; kernel_rfl
theorem g120 : FnQ Try.prog 120 (some ff120) := fun fi h => by cases h; kernel_rfl
theorem g121 : FnQ Try.prog 121 (some ff121) := fun fi h => by cases h; kernel_rfl
theorem n1 (b : Nat) : TyQ Try.prog b none := fun _ h => by cases h
theorem n2 (b : Nat) : FnQ Try.prog b none := fun _ h => by cases h
theorem tyA : AllT (TyQ Try.prog) 8 0 1 ty := ⟨⟨⟨⟨⟨⟨⟨⟨q0, q128⟩, ⟨q64, (n1 _)⟩⟩, ⟨trivial, ⟨q96, (n1 _)⟩⟩⟩, ⟨⟨⟨q16, q144⟩, ⟨q80, (n1 _)⟩⟩, ⟨⟨q48, (n1 _)⟩, ⟨q112, (n1 _)⟩⟩⟩⟩, ⟨⟨⟨⟨q8, q136⟩, ⟨q72, (n1 _)⟩⟩, ⟨⟨q40, (n1 _)⟩, trivial⟩⟩, ⟨⟨⟨q24, (n1 _)⟩, ⟨q88, (n1 _)⟩⟩, ⟨⟨q56, (n1 _)⟩, ⟨q120, (n1 _)⟩⟩⟩⟩⟩, ⟨⟨⟨⟨⟨q4, q132⟩, ⟨q68, (n1 _)⟩⟩, ⟨⟨q36, (n1 _)⟩, ⟨q100, (n1 _)⟩⟩⟩, ⟨⟨⟨q20, q148⟩, ⟨q84, (n1 _)⟩⟩, ⟨⟨q52, (n1 _)⟩, ⟨q116, (n1 _)⟩⟩⟩⟩, ⟨⟨⟨⟨q12, q140⟩, ⟨q76, (n1 _)⟩⟩, ⟨⟨q44, (n1 _)⟩, ⟨q108, (n1 _)⟩⟩⟩, ⟨⟨⟨q28, (n1 _)⟩, ⟨q92, (n1 _)⟩⟩, ⟨⟨q60, (n1 _)⟩, ⟨q124, (n1 _)⟩⟩⟩⟩⟩⟩, ⟨⟨⟨⟨⟨⟨q2, q130⟩, ⟨q66, (n1 _)⟩⟩, ⟨⟨q34, (n1 _)⟩, ⟨q98, (n1 _)⟩⟩⟩, ⟨⟨⟨q18, q146⟩, ⟨q82, (n1 _)⟩⟩, ⟨trivial, ⟨q114, (n1 _)⟩⟩⟩⟩, ⟨⟨⟨⟨q10, q138⟩, ⟨q74, (n1 _)⟩⟩, ⟨⟨q42, (n1 _)⟩, ⟨q106, (n1 _)⟩⟩⟩, ⟨⟨⟨q26, (n1 _)⟩, ⟨q90, (n1 _)⟩⟩, ⟨⟨q58, (n1 _)⟩, ⟨q122, (n1 _)⟩⟩⟩⟩⟩, ⟨⟨⟨⟨⟨q6, q134⟩, ⟨q70, (n1 _)⟩⟩, ⟨⟨q38, (n1 _)⟩, ⟨q102, (n1 _)⟩⟩⟩, ⟨⟨⟨q22, q150⟩, ⟨q86, (n1 _)⟩⟩, ⟨⟨q54, (n1 _)⟩, trivial⟩⟩⟩, ⟨⟨⟨⟨q14, q142⟩, ⟨q78, (n1 _)⟩⟩, ⟨⟨q46, (n1 _)⟩, ⟨q110, (n1 _)⟩⟩⟩, ⟨⟨trivial, ⟨q94, (n1 _)⟩⟩, ⟨⟨q62, (n1 _)⟩, ⟨q126, (n1 _)⟩⟩⟩⟩⟩⟩⟩, ⟨⟨⟨⟨⟨⟨⟨q1, q129⟩, trivial⟩, ⟨⟨q33, (n1 _)⟩, ⟨q97, (n1 _)⟩⟩⟩, ⟨⟨⟨q17, q145⟩, ⟨q81, (n1 _)⟩⟩, ⟨⟨q49, (n1 _)⟩, ⟨q113, (n1 _)⟩⟩⟩⟩, ⟨⟨⟨⟨q9, q137⟩, ⟨q73, (n1 _)⟩⟩, ⟨⟨q41, (n1 _)⟩, ⟨q105, (n1 _)⟩⟩⟩, ⟨⟨⟨q25, (n1 _)⟩, ⟨q89, (n1 _)⟩⟩, ⟨⟨q57, (n1 _)⟩, ⟨q121, (n1 _)⟩⟩⟩⟩⟩, ⟨⟨⟨⟨⟨q5, q133⟩, trivial⟩, ⟨trivial, ⟨q101, (n1 _)⟩⟩⟩, ⟨⟨⟨q21, q149⟩, ⟨q85, (n1 _)⟩⟩, ⟨⟨q53, (n1 _)⟩, ⟨q117, (n1 _)⟩⟩⟩⟩, ⟨⟨⟨⟨q13, q141⟩, ⟨q77, (n1 _)⟩⟩, ⟨⟨q45, (n1 _)⟩, ⟨q109, (n1 _)⟩⟩⟩, ⟨⟨⟨q29, (n1 _)⟩, ⟨q93, (n1 _)⟩⟩, ⟨⟨q61, (n1 _)⟩, ⟨q125, (n1 _)⟩⟩⟩⟩⟩⟩, ⟨⟨⟨⟨⟨⟨q3, q131⟩, ⟨q67, (n1 _)⟩⟩, ⟨⟨q35, (n1 _)⟩, ⟨q99, (n1 _)⟩⟩⟩, ⟨⟨⟨q19, q147⟩, ⟨q83, (n1 _)⟩⟩, ⟨⟨q51, (n1 _)⟩, ⟨q115, (n1 _)⟩⟩⟩⟩, ⟨⟨⟨⟨q11, q139⟩, ⟨q75, (n1 _)⟩⟩, ⟨trivial, ⟨q107, (n1 _)⟩⟩⟩, ⟨⟨⟨q27, (n1 _)⟩, ⟨q91, (n1 _)⟩⟩, ⟨⟨q59, (n1 _)⟩, ⟨q123, (n1 _)⟩⟩⟩⟩⟩, ⟨⟨⟨⟨⟨q7, (n1 _)⟩, trivial⟩, ⟨⟨q39, (n1 _)⟩, ⟨q103, (n1 _)⟩⟩⟩, ⟨⟨⟨q23, q151⟩, ⟨q87, (n1 _)⟩⟩, ⟨⟨q55, (n1 _)⟩, ⟨q119, (n1 _)⟩⟩⟩⟩, ⟨⟨⟨⟨q15, q143⟩, ⟨q79, (n1 _)⟩⟩, ⟨⟨q47, (n1 _)⟩, ⟨q111, (n1 _)⟩⟩⟩, ⟨⟨⟨q31, (n1 _)⟩, ⟨q95, (n1 _)⟩⟩, ⟨⟨q63, (n1 _)⟩, ⟨q127, (n1 _)⟩⟩⟩⟩⟩⟩⟩⟩
theorem fnA : AllT (FnQ Try.prog) 7 0 1 fn := ⟨⟨⟨⟨⟨⟨⟨(n2 _), g64⟩, ⟨g32, g96⟩⟩, ⟨⟨g16, g80⟩, ⟨g48, g112⟩⟩⟩, ⟨⟨⟨g8, g72⟩, ⟨g40, g104⟩⟩, ⟨⟨g24, g88⟩, ⟨g56, g120⟩⟩⟩⟩, ⟨⟨⟨⟨g4, g68⟩, ⟨g36, g100⟩⟩, ⟨⟨g20, g84⟩, ⟨g52, g116⟩⟩⟩, ⟨⟨⟨g12, g76⟩, ⟨g44, g108⟩⟩, ⟨⟨g28, g92⟩, ⟨g60, (n2 _)⟩⟩⟩⟩⟩, ⟨⟨⟨⟨⟨g2, g66⟩, ⟨g34, g98⟩⟩, ⟨⟨g18, g82⟩, ⟨g50, g114⟩⟩⟩, ⟨⟨⟨g10, g74⟩, ⟨g42, g106⟩⟩, ⟨⟨g26, g90⟩, ⟨g58, (n2 _)⟩⟩⟩⟩, ⟨⟨⟨⟨g6, g70⟩, ⟨g38, g102⟩⟩, ⟨⟨g22, g86⟩, ⟨g54, g118⟩⟩⟩, ⟨⟨⟨g14, g78⟩, ⟨g46, g110⟩⟩, ⟨⟨g30, g94⟩, ⟨g62, (n2 _)⟩⟩⟩⟩⟩⟩, ⟨⟨⟨⟨⟨⟨(n2 _), g65⟩, ⟨g33, g97⟩⟩, ⟨⟨g17, g81⟩, ⟨g49, g113⟩⟩⟩, ⟨⟨⟨g9, g73⟩, ⟨g41, g105⟩⟩, ⟨⟨g25, g89⟩, ⟨g57, g121⟩⟩⟩⟩, ⟨⟨⟨⟨g5, g69⟩, ⟨g37, g101⟩⟩, ⟨⟨g21, g85⟩, ⟨g53, g117⟩⟩⟩, ⟨⟨⟨g13, g77⟩, ⟨g45, g109⟩⟩, ⟨⟨g29, g93⟩, ⟨g61, (n2 _)⟩⟩⟩⟩⟩, ⟨⟨⟨⟨⟨g3, g67⟩, ⟨g35, g99⟩⟩, ⟨⟨g19, g83⟩, ⟨g51, g115⟩⟩⟩, ⟨⟨⟨g11, g75⟩, ⟨g43, g107⟩⟩, ⟨⟨g27, g91⟩, ⟨g59, (n2 _)⟩⟩⟩⟩, ⟨⟨⟨⟨g7, g71⟩, ⟨g39, g103⟩⟩, ⟨⟨g23, g87⟩, ⟨g55, g119⟩⟩⟩, ⟨⟨⟨g15, g79⟩, ⟨g47, g111⟩⟩, ⟨⟨g31, g95⟩, ⟨g63, (n2 _)⟩⟩⟩⟩⟩⟩⟩
theorem xs : ∀ g, ExtQ Try.prog g (ext g) := fun _ => trivial
theorem ok : Ok Try.prog pr := ok_of tyA fnA rfl rfl (by kernel_rfl) xs
theorem lb : LibOk Try.prog pr := lib_none fun _ => rfl
end Go.Proofs.Ytmgkeeefbfefgaa.Pt
