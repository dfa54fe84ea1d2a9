/- Texts joined by pack.py: lemmas for YtmgkeeefbfefgaaGreatDays. No condition. -/
import Derived.Test.YtmgkeeefbfefgaaGreatPA8
import Derived.Laws.Externs
import Derived.KernelRfl
import Derived.Shelf.Sort.Plain
import Derived.Ground.Names2Prog
import Derived.Shelf.Slices.CompactI
import Derived.Shelf.Slices.In.SortNone
import Derived.Test.YtmgkeeefbfefgaaGreatProg
set_option linter.unusedSimpArgs false
set_option linter.unusedVariables false
set_option linter.defProp false
section
namespace Go.Proofs.YtmgkeeefbfefgaaGreat.Pt
open Go Go.Proofs Go.Run
set_option maxRecDepth 100000
theorem y0 : mkTI Tryz.prog 0 = some ⟨1, 0, (.tup []), .other, []⟩ := by kernel_rfl
theorem q0 : TyQ Tryz.prog 0 (some ⟨1, 0, (.tup []), .other, []⟩) := fun ti h => by cases h; exact ⟨y0, .inl rfl⟩
theorem y1 : mkTI Tryz.prog 1 = some ⟨1, 8, .nfunc, .func, []⟩ := by kernel_rfl
theorem q1 : TyQ Tryz.prog 1 (some ⟨1, 8, .nfunc, .func, []⟩) := fun ti h => by cases h; exact ⟨y1, .inl rfl⟩
theorem y2 : mkTI Tryz.prog 2 = some ⟨1, 8, (.int .i64 0), (.int .i64), []⟩ := by kernel_rfl
theorem q2 : TyQ Tryz.prog 2 (some ⟨1, 8, (.int .i64 0), (.int .i64), []⟩) := fun ti h => by cases h; exact ⟨y2, .inl rfl⟩
theorem y3 : mkTI Tryz.prog 3 = some ⟨1, 8, (.int .i64 0), (.int .i64), []⟩ := by kernel_rfl
theorem q3 : TyQ Tryz.prog 3 (some ⟨1, 8, (.int .i64 0), (.int .i64), []⟩) := fun ti h => by cases h; exact ⟨y3, .inl rfl⟩
theorem y4 : mkTI Tryz.prog 4 = some ⟨1, 1, (.bool false), .bool, []⟩ := by kernel_rfl
theorem q4 : TyQ Tryz.prog 4 (some ⟨1, 1, (.bool false), .bool, []⟩) := fun ti h => by cases h; exact ⟨y4, .inl rfl⟩
theorem y5 : mkTI Tryz.prog 5 = some ⟨1, 1, (.int .u8 0), (.int .u8), []⟩ := by kernel_rfl
theorem q5 : TyQ Tryz.prog 5 (some ⟨1, 1, (.int .u8 0), (.int .u8), []⟩) := fun ti h => by cases h; exact ⟨y5, .inl rfl⟩
theorem y6 : mkTI Tryz.prog 6 = some ⟨1, 1, (.int .u8 0), (.int .u8), []⟩ := by kernel_rfl
theorem q6 : TyQ Tryz.prog 6 (some ⟨1, 1, (.int .u8 0), (.int .u8), []⟩) := fun ti h => by cases h; exact ⟨y6, .inl rfl⟩
theorem y7 : mkTI Tryz.prog 7 = some ⟨4, 24, (.agg [(.int .i64 0), (.int .i64 0), (.bool false), (.int .u8 0)]), (.strct [(0, 2, 1), (1, 3, 1), (2, 4, 1), (3, 6, 1)]), []⟩ := by kernel_rfl
theorem q7 : TyQ Tryz.prog 7 (some ⟨4, 24, (.agg [(.int .i64 0), (.int .i64 0), (.bool false), (.int .u8 0)]), (.strct [(0, 2, 1), (1, 3, 1), (2, 4, 1), (3, 6, 1)]), []⟩) := fun ti h => by cases h; exact ⟨y7, .inl rfl⟩
theorem y8 : mkTI Tryz.prog 8 = some ⟨4, 24, (.agg [(.int .i64 0), (.int .i64 0), (.bool false), (.int .u8 0)]), (.strct [(0, 2, 1), (1, 3, 1), (2, 4, 1), (3, 6, 1)]), []⟩ := by kernel_rfl
theorem q8 : TyQ Tryz.prog 8 (some ⟨4, 24, (.agg [(.int .i64 0), (.int .i64 0), (.bool false), (.int .u8 0)]), (.strct [(0, 2, 1), (1, 3, 1), (2, 4, 1), (3, 6, 1)]), []⟩) := fun ti h => by cases h; exact ⟨y8, .inl rfl⟩
theorem y9 : mkTI Tryz.prog 9 = some ⟨1, 16, (.str []), .string, []⟩ := by kernel_rfl
theorem q9 : TyQ Tryz.prog 9 (some ⟨1, 16, (.str []), .string, []⟩) := fun ti h => by cases h; exact ⟨y9, .inl rfl⟩
theorem y10 : mkTI Tryz.prog 10 = some ⟨1, 16, (.str []), .string, []⟩ := by kernel_rfl
theorem q10 : TyQ Tryz.prog 10 (some ⟨1, 16, (.str []), .string, []⟩) := fun ti h => by cases h; exact ⟨y10, .inl rfl⟩
theorem y11 : mkTI Tryz.prog 11 = some ⟨1, 16, (.str []), .string, []⟩ := by kernel_rfl
theorem q11 : TyQ Tryz.prog 11 (some ⟨1, 16, (.str []), .string, []⟩) := fun ti h => by cases h; exact ⟨y11, .inl rfl⟩
theorem y12 : mkTI Tryz.prog 12 = some ⟨1, 8, (.int .u64 0), (.int .u64), []⟩ := by kernel_rfl
theorem q12 : TyQ Tryz.prog 12 (some ⟨1, 8, (.int .u64 0), (.int .u64), []⟩) := fun ti h => by cases h; exact ⟨y12, .inl rfl⟩
theorem y13 : mkTI Tryz.prog 13 = some ⟨2, 24, (.agg [(.str []), (.int .u64 0)]), (.strct [(0, 9, 1), (1, 12, 1)]), []⟩ := by kernel_rfl
theorem q13 : TyQ Tryz.prog 13 (some ⟨2, 24, (.agg [(.str []), (.int .u64 0)]), (.strct [(0, 9, 1), (1, 12, 1)]), []⟩) := fun ti h => by cases h; exact ⟨y13, .inl rfl⟩
theorem y14 : mkTI Tryz.prog 14 = some ⟨2, 24, (.agg [(.str []), (.int .u64 0)]), (.strct [(0, 9, 1), (1, 12, 1)]), []⟩ := by kernel_rfl
theorem q14 : TyQ Tryz.prog 14 (some ⟨2, 24, (.agg [(.str []), (.int .u64 0)]), (.strct [(0, 9, 1), (1, 12, 1)]), []⟩) := fun ti h => by cases h; exact ⟨y14, .inl rfl⟩
theorem y15 : mkTI Tryz.prog 15 = some ⟨1, 8, .nptr, (.ptr 128), []⟩ := by kernel_rfl
theorem q15 : TyQ Tryz.prog 15 (some ⟨1, 8, .nptr, (.ptr 128), []⟩) := fun ti h => by cases h; exact ⟨y15, .inl rfl⟩
theorem y16 : mkTI Tryz.prog 16 = some ⟨1, 8, .nptr, (.ptr 131), []⟩ := by kernel_rfl
theorem q16 : TyQ Tryz.prog 16 (some ⟨1, 8, .nptr, (.ptr 131), []⟩) := fun ti h => by cases h; exact ⟨y16, .inl rfl⟩
theorem y17 : mkTI Tryz.prog 17 = some ⟨1, 8, .nptr, (.ptr 139), []⟩ := by kernel_rfl
theorem q17 : TyQ Tryz.prog 17 (some ⟨1, 8, .nptr, (.ptr 139), []⟩) := fun ti h => by cases h; exact ⟨y17, .inl rfl⟩
theorem y18 : mkTI Tryz.prog 18 = some ⟨1, 8, (.agg [.nptr]), (.strct [(0, 17, 1)]), []⟩ := by kernel_rfl
theorem q18 : TyQ Tryz.prog 18 (some ⟨1, 8, (.agg [.nptr]), (.strct [(0, 17, 1)]), []⟩) := fun ti h => by cases h; exact ⟨y18, .inl rfl⟩
theorem y19 : mkTI Tryz.prog 19 = some ⟨1, 8, (.agg [.nptr]), (.strct [(0, 17, 1)]), []⟩ := by kernel_rfl
theorem q19 : TyQ Tryz.prog 19 (some ⟨1, 8, (.agg [.nptr]), (.strct [(0, 17, 1)]), []⟩) := fun ti h => by cases h; exact ⟨y19, .inl rfl⟩
theorem y20 : mkTI Tryz.prog 20 = some ⟨1, 16, .niface, .iface, []⟩ := by kernel_rfl
theorem q20 : TyQ Tryz.prog 20 (some ⟨1, 16, .niface, .iface, []⟩) := fun ti h => by cases h; exact ⟨y20, .inl rfl⟩
theorem y21 : mkTI Tryz.prog 21 = some ⟨1, 4, (.int .i32 0), (.int .i32), []⟩ := by kernel_rfl
theorem q21 : TyQ Tryz.prog 21 (some ⟨1, 4, (.int .i32 0), (.int .i32), []⟩) := fun ti h => by cases h; exact ⟨y21, .inl rfl⟩
theorem y22 : mkTI Tryz.prog 22 = some ⟨1, 24, .nslice, (.slice 72), []⟩ := by kernel_rfl
theorem q22 : TyQ Tryz.prog 22 (some ⟨1, 24, .nslice, (.slice 72), []⟩) := fun ti h => by cases h; exact ⟨y22, .inl rfl⟩
theorem y23 : mkTI Tryz.prog 23 = some ⟨3, 40, (.agg [(.int .i64 0), (.int .i64 0), .nslice]), (.strct [(0, 3, 1), (1, 3, 1), (2, 22, 1)]), []⟩ := by kernel_rfl
theorem q23 : TyQ Tryz.prog 23 (some ⟨3, 40, (.agg [(.int .i64 0), (.int .i64 0), .nslice]), (.strct [(0, 3, 1), (1, 3, 1), (2, 22, 1)]), []⟩) := fun ti h => by cases h; exact ⟨y23, .inl rfl⟩
theorem y24 : mkTI Tryz.prog 24 = some ⟨3, 40, (.agg [(.int .i64 0), (.int .i64 0), .nslice]), (.strct [(0, 3, 1), (1, 3, 1), (2, 22, 1)]), []⟩ := by kernel_rfl
theorem q24 : TyQ Tryz.prog 24 (some ⟨3, 40, (.agg [(.int .i64 0), (.int .i64 0), .nslice]), (.strct [(0, 3, 1), (1, 3, 1), (2, 22, 1)]), []⟩) := fun ti h => by cases h; exact ⟨y24, .inl rfl⟩
theorem y25 : mkTI Tryz.prog 25 = some ⟨1, 24, .nslice, (.slice 3), []⟩ := by kernel_rfl
theorem q25 : TyQ Tryz.prog 25 (some ⟨1, 24, .nslice, (.slice 3), []⟩) := fun ti h => by cases h; exact ⟨y25, .inl rfl⟩
theorem y26 : mkTI Tryz.prog 26 = some ⟨1, 8, .nfunc, .func, []⟩ := by kernel_rfl
theorem q26 : TyQ Tryz.prog 26 (some ⟨1, 8, .nfunc, .func, []⟩) := fun ti h => by cases h; exact ⟨y26, .inl rfl⟩
theorem y27 : mkTI Tryz.prog 27 = some ⟨1, 8, .nfunc, .func, []⟩ := by kernel_rfl
theorem q27 : TyQ Tryz.prog 27 (some ⟨1, 8, .nfunc, .func, []⟩) := fun ti h => by cases h; exact ⟨y27, .inl rfl⟩
theorem y28 : mkTI Tryz.prog 28 = some ⟨1, 8, .nfunc, .func, []⟩ := by kernel_rfl
theorem q28 : TyQ Tryz.prog 28 (some ⟨1, 8, .nfunc, .func, []⟩) := fun ti h => by cases h; exact ⟨y28, .inl rfl⟩
theorem y29 : mkTI Tryz.prog 29 = some ⟨1, 8, (.int .i64 0), (.int .i64), []⟩ := by kernel_rfl
theorem q29 : TyQ Tryz.prog 29 (some ⟨1, 8, (.int .i64 0), (.int .i64), []⟩) := fun ti h => by cases h; exact ⟨y29, .inl rfl⟩
theorem y31 : mkTI Tryz.prog 31 = some ⟨1, 8, .nfunc, .func, []⟩ := by kernel_rfl
theorem q31 : TyQ Tryz.prog 31 (some ⟨1, 8, .nfunc, .func, []⟩) := fun ti h => by cases h; exact ⟨y31, .inl rfl⟩
theorem y33 : mkTI Tryz.prog 33 = some ⟨1, 8, .nfunc, .func, []⟩ := by kernel_rfl
theorem q33 : TyQ Tryz.prog 33 (some ⟨1, 8, .nfunc, .func, []⟩) := fun ti h => by cases h; exact ⟨y33, .inl rfl⟩
theorem y34 : mkTI Tryz.prog 34 = some ⟨1, 8, .nfunc, .func, []⟩ := by kernel_rfl
theorem q34 : TyQ Tryz.prog 34 (some ⟨1, 8, .nfunc, .func, []⟩) := fun ti h => by cases h; exact ⟨y34, .inl rfl⟩
theorem y35 : mkTI Tryz.prog 35 = some ⟨1, 8, .nfunc, .func, []⟩ := by kernel_rfl
theorem q35 : TyQ Tryz.prog 35 (some ⟨1, 8, .nfunc, .func, []⟩) := fun ti h => by cases h; exact ⟨y35, .inl rfl⟩
theorem y36 : mkTI Tryz.prog 36 = some ⟨1, 8, .nfunc, .func, []⟩ := by kernel_rfl
theorem q36 : TyQ Tryz.prog 36 (some ⟨1, 8, .nfunc, .func, []⟩) := fun ti h => by cases h; exact ⟨y36, .inl rfl⟩
theorem y37 : mkTI Tryz.prog 37 = some ⟨1, 8, .nfunc, .func, []⟩ := by kernel_rfl
theorem q37 : TyQ Tryz.prog 37 (some ⟨1, 8, .nfunc, .func, []⟩) := fun ti h => by cases h; exact ⟨y37, .inl rfl⟩
theorem y38 : mkTI Tryz.prog 38 = some ⟨1, 8, .nfunc, .func, []⟩ := by kernel_rfl
theorem q38 : TyQ Tryz.prog 38 (some ⟨1, 8, .nfunc, .func, []⟩) := fun ti h => by cases h; exact ⟨y38, .inl rfl⟩
theorem y40 : mkTI Tryz.prog 40 = some ⟨1, 8, .nfunc, .func, []⟩ := by kernel_rfl
theorem q40 : TyQ Tryz.prog 40 (some ⟨1, 8, .nfunc, .func, []⟩) := fun ti h => by cases h; exact ⟨y40, .inl rfl⟩
theorem y41 : mkTI Tryz.prog 41 = some ⟨1, 8, .nfunc, .func, []⟩ := by kernel_rfl
theorem q41 : TyQ Tryz.prog 41 (some ⟨1, 8, .nfunc, .func, []⟩) := fun ti h => by cases h; exact ⟨y41, .inl rfl⟩
theorem y42 : mkTI Tryz.prog 42 = some ⟨1, 8, .nfunc, .func, []⟩ := by kernel_rfl
theorem q42 : TyQ Tryz.prog 42 (some ⟨1, 8, .nfunc, .func, []⟩) := fun ti h => by cases h; exact ⟨y42, .inl rfl⟩
theorem y43 : mkTI Tryz.prog 43 = some ⟨1, 8, .nfunc, .func, []⟩ := by kernel_rfl
theorem q43 : TyQ Tryz.prog 43 (some ⟨1, 8, .nfunc, .func, []⟩) := fun ti h => by cases h; exact ⟨y43, .inl rfl⟩
theorem y44 : mkTI Tryz.prog 44 = some ⟨1, 8, .nptr, (.ptr 81), []⟩ := by kernel_rfl
theorem q44 : TyQ Tryz.prog 44 (some ⟨1, 8, .nptr, (.ptr 81), []⟩) := fun ti h => by cases h; exact ⟨y44, .inl rfl⟩
theorem y46 : mkTI Tryz.prog 46 = some ⟨1, 8, .nfunc, .func, []⟩ := by kernel_rfl
theorem q46 : TyQ Tryz.prog 46 (some ⟨1, 8, .nfunc, .func, []⟩) := fun ti h => by cases h; exact ⟨y46, .inl rfl⟩
theorem y47 : mkTI Tryz.prog 47 = some ⟨1, 8, .nfunc, .func, []⟩ := by kernel_rfl
theorem q47 : TyQ Tryz.prog 47 (some ⟨1, 8, .nfunc, .func, []⟩) := fun ti h => by cases h; exact ⟨y47, .inl rfl⟩
theorem y48 : mkTI Tryz.prog 48 = some ⟨1, 8, .nfunc, .func, []⟩ := by kernel_rfl
theorem q48 : TyQ Tryz.prog 48 (some ⟨1, 8, .nfunc, .func, []⟩) := fun ti h => by cases h; exact ⟨y48, .inl rfl⟩
theorem y49 : mkTI Tryz.prog 49 = some ⟨1, 8, .nfunc, .func, []⟩ := by kernel_rfl
theorem q49 : TyQ Tryz.prog 49 (some ⟨1, 8, .nfunc, .func, []⟩) := fun ti h => by cases h; exact ⟨y49, .inl rfl⟩
theorem y50 : mkTI Tryz.prog 50 = some ⟨1, 8, .nfunc, .func, []⟩ := by kernel_rfl
theorem q50 : TyQ Tryz.prog 50 (some ⟨1, 8, .nfunc, .func, []⟩) := fun ti h => by cases h; exact ⟨y50, .inl rfl⟩
theorem y51 : mkTI Tryz.prog 51 = some ⟨1, 8, .nfunc, .func, []⟩ := by kernel_rfl
theorem q51 : TyQ Tryz.prog 51 (some ⟨1, 8, .nfunc, .func, []⟩) := fun ti h => by cases h; exact ⟨y51, .inl rfl⟩
theorem y52 : mkTI Tryz.prog 52 = some ⟨1, 8, .nfunc, .func, []⟩ := by kernel_rfl
theorem q52 : TyQ Tryz.prog 52 (some ⟨1, 8, .nfunc, .func, []⟩) := fun ti h => by cases h; exact ⟨y52, .inl rfl⟩
theorem y53 : mkTI Tryz.prog 53 = some ⟨1, 8, .nfunc, .func, []⟩ := by kernel_rfl
theorem q53 : TyQ Tryz.prog 53 (some ⟨1, 8, .nfunc, .func, []⟩) := fun ti h => by cases h; exact ⟨y53, .inl rfl⟩
theorem y54 : mkTI Tryz.prog 54 = some ⟨1, 8, .nfunc, .func, []⟩ := by kernel_rfl
theorem q54 : TyQ Tryz.prog 54 (some ⟨1, 8, .nfunc, .func, []⟩) := fun ti h => by cases h; exact ⟨y54, .inl rfl⟩
theorem y55 : mkTI Tryz.prog 55 = some ⟨1, 8, .nfunc, .func, []⟩ := by kernel_rfl
theorem q55 : TyQ Tryz.prog 55 (some ⟨1, 8, .nfunc, .func, []⟩) := fun ti h => by cases h; exact ⟨y55, .inl rfl⟩
theorem y56 : mkTI Tryz.prog 56 = some ⟨6, 48, (.agg [(.int .i64 0), (.int .i64 0), (.int .i64 0), (.int .i64 0), (.int .i64 0), (.int .i64 0)]), (.array 6 3), []⟩ := by kernel_rfl
theorem q56 : TyQ Tryz.prog 56 (some ⟨6, 48, (.agg [(.int .i64 0), (.int .i64 0), (.int .i64 0), (.int .i64 0), (.int .i64 0), (.int .i64 0)]), (.array 6 3), []⟩) := fun ti h => by cases h; exact ⟨y56, .inl rfl⟩
theorem y57 : mkTI Tryz.prog 57 = some ⟨6, 48, (.agg [(.int .i64 0), (.int .i64 0), (.int .i64 0), (.int .i64 0), (.int .i64 0), (.int .i64 0)]), (.array 6 3), []⟩ := by kernel_rfl
theorem z57 : flT Tryz.prog 57 = (List.replicate 6 .i) := by kernel_rfl
theorem q57 : TyQ Tryz.prog 57 (some ⟨6, 48, (.agg [(.int .i64 0), (.int .i64 0), (.int .i64 0), (.int .i64 0), (.int .i64 0), (.int .i64 0)]), (.array 6 3), (List.replicate 6 .i)⟩) := fun ti h => by cases h; exact ⟨y57, .inr z57⟩
theorem y59 : mkTI Tryz.prog 59 = some ⟨1, 8, .nfunc, .func, []⟩ := by kernel_rfl
theorem q59 : TyQ Tryz.prog 59 (some ⟨1, 8, .nfunc, .func, []⟩) := fun ti h => by cases h; exact ⟨y59, .inl rfl⟩
theorem y60 : mkTI Tryz.prog 60 = some ⟨1, 8, .nfunc, .func, []⟩ := by kernel_rfl
theorem q60 : TyQ Tryz.prog 60 (some ⟨1, 8, .nfunc, .func, []⟩) := fun ti h => by cases h; exact ⟨y60, .inl rfl⟩
theorem y61 : mkTI Tryz.prog 61 = some ⟨1, 8, .nfunc, .func, []⟩ := by kernel_rfl
theorem q61 : TyQ Tryz.prog 61 (some ⟨1, 8, .nfunc, .func, []⟩) := fun ti h => by cases h; exact ⟨y61, .inl rfl⟩
theorem y62 : mkTI Tryz.prog 62 = some ⟨1, 8, .nfunc, .func, []⟩ := by kernel_rfl
theorem q62 : TyQ Tryz.prog 62 (some ⟨1, 8, .nfunc, .func, []⟩) := fun ti h => by cases h; exact ⟨y62, .inl rfl⟩
theorem y63 : mkTI Tryz.prog 63 = some ⟨1, 8, .nfunc, .func, []⟩ := by kernel_rfl
theorem q63 : TyQ Tryz.prog 63 (some ⟨1, 8, .nfunc, .func, []⟩) := fun ti h => by cases h; exact ⟨y63, .inl rfl⟩
theorem y64 : mkTI Tryz.prog 64 = some ⟨1, 8, .nfunc, .func, []⟩ := by kernel_rfl
theorem q64 : TyQ Tryz.prog 64 (some ⟨1, 8, .nfunc, .func, []⟩) := fun ti h => by cases h; exact ⟨y64, .inl rfl⟩
theorem y65 : mkTI Tryz.prog 65 = some ⟨1, 8, .nfunc, .func, []⟩ := by kernel_rfl
theorem q65 : TyQ Tryz.prog 65 (some ⟨1, 8, .nfunc, .func, []⟩) := fun ti h => by cases h; exact ⟨y65, .inl rfl⟩
theorem y66 : mkTI Tryz.prog 66 = some ⟨1, 8, .nmap, (.map 3 3), []⟩ := by kernel_rfl
theorem q66 : TyQ Tryz.prog 66 (some ⟨1, 8, .nmap, (.map 3 3), []⟩) := fun ti h => by cases h; exact ⟨y66, .inl rfl⟩
theorem y67 : mkTI Tryz.prog 67 = some ⟨1, 8, .nfunc, .func, []⟩ := by kernel_rfl
theorem q67 : TyQ Tryz.prog 67 (some ⟨1, 8, .nfunc, .func, []⟩) := fun ti h => by cases h; exact ⟨y67, .inl rfl⟩
theorem y68 : mkTI Tryz.prog 68 = some ⟨1, 8, .nfunc, .func, []⟩ := by kernel_rfl
theorem q68 : TyQ Tryz.prog 68 (some ⟨1, 8, .nfunc, .func, []⟩) := fun ti h => by cases h; exact ⟨y68, .inl rfl⟩
theorem y69 : mkTI Tryz.prog 69 = some ⟨1, 8, .nfunc, .func, []⟩ := by kernel_rfl
theorem q69 : TyQ Tryz.prog 69 (some ⟨1, 8, .nfunc, .func, []⟩) := fun ti h => by cases h; exact ⟨y69, .inl rfl⟩
theorem y70 : mkTI Tryz.prog 70 = some ⟨1, 8, .nfunc, .func, []⟩ := by kernel_rfl
theorem q70 : TyQ Tryz.prog 70 (some ⟨1, 8, .nfunc, .func, []⟩) := fun ti h => by cases h; exact ⟨y70, .inl rfl⟩
theorem y71 : mkTI Tryz.prog 71 = some ⟨2, 16, (.agg [(.int .i64 0), (.int .i64 0)]), (.strct [(0, 3, 1), (1, 3, 1)]), []⟩ := by kernel_rfl
theorem q71 : TyQ Tryz.prog 71 (some ⟨2, 16, (.agg [(.int .i64 0), (.int .i64 0)]), (.strct [(0, 3, 1), (1, 3, 1)]), []⟩) := fun ti h => by cases h; exact ⟨y71, .inl rfl⟩
theorem y72 : mkTI Tryz.prog 72 = some ⟨2, 16, (.agg [(.int .i64 0), (.int .i64 0)]), (.strct [(0, 3, 1), (1, 3, 1)]), []⟩ := by kernel_rfl
theorem z72 : flT Tryz.prog 72 = [.i, .i] := by kernel_rfl
theorem q72 : TyQ Tryz.prog 72 (some ⟨2, 16, (.agg [(.int .i64 0), (.int .i64 0)]), (.strct [(0, 3, 1), (1, 3, 1)]), [.i, .i]⟩) := fun ti h => by cases h; exact ⟨y72, .inr z72⟩
theorem y73 : mkTI Tryz.prog 73 = some ⟨1, 8, .nfunc, .func, []⟩ := by kernel_rfl
theorem q73 : TyQ Tryz.prog 73 (some ⟨1, 8, .nfunc, .func, []⟩) := fun ti h => by cases h; exact ⟨y73, .inl rfl⟩
theorem y74 : mkTI Tryz.prog 74 = some ⟨1, 8, .nfunc, .func, []⟩ := by kernel_rfl
theorem q74 : TyQ Tryz.prog 74 (some ⟨1, 8, .nfunc, .func, []⟩) := fun ti h => by cases h; exact ⟨y74, .inl rfl⟩
theorem y76 : mkTI Tryz.prog 76 = some ⟨1, 8, .nfunc, .func, []⟩ := by kernel_rfl
theorem q76 : TyQ Tryz.prog 76 (some ⟨1, 8, .nfunc, .func, []⟩) := fun ti h => by cases h; exact ⟨y76, .inl rfl⟩
theorem y77 : mkTI Tryz.prog 77 = some ⟨1, 8, .nfunc, .func, []⟩ := by kernel_rfl
theorem q77 : TyQ Tryz.prog 77 (some ⟨1, 8, .nfunc, .func, []⟩) := fun ti h => by cases h; exact ⟨y77, .inl rfl⟩
theorem y78 : mkTI Tryz.prog 78 = some ⟨1, 8, .nfunc, .func, []⟩ := by kernel_rfl
theorem q78 : TyQ Tryz.prog 78 (some ⟨1, 8, .nfunc, .func, []⟩) := fun ti h => by cases h; exact ⟨y78, .inl rfl⟩
theorem y79 : mkTI Tryz.prog 79 = some ⟨1, 8, .nmap, (.map 87 3), []⟩ := by kernel_rfl
theorem q79 : TyQ Tryz.prog 79 (some ⟨1, 8, .nmap, (.map 87 3), []⟩) := fun ti h => by cases h; exact ⟨y79, .inl rfl⟩
theorem y80 : mkTI Tryz.prog 80 = some ⟨4, 48, (.agg [(.int .i64 0), (.int .i64 0), .nslice, .nmap]), (.strct [(0, 24, 3), (3, 79, 1)]), []⟩ := by kernel_rfl
theorem q80 : TyQ Tryz.prog 80 (some ⟨4, 48, (.agg [(.int .i64 0), (.int .i64 0), .nslice, .nmap]), (.strct [(0, 24, 3), (3, 79, 1)]), []⟩) := fun ti h => by cases h; exact ⟨y80, .inl rfl⟩
theorem y81 : mkTI Tryz.prog 81 = some ⟨4, 48, (.agg [(.int .i64 0), (.int .i64 0), .nslice, .nmap]), (.strct [(0, 24, 3), (3, 79, 1)]), []⟩ := by kernel_rfl
theorem q81 : TyQ Tryz.prog 81 (some ⟨4, 48, (.agg [(.int .i64 0), (.int .i64 0), .nslice, .nmap]), (.strct [(0, 24, 3), (3, 79, 1)]), []⟩) := fun ti h => by cases h; exact ⟨y81, .inl rfl⟩
theorem y82 : mkTI Tryz.prog 82 = some ⟨1, 8, .nfunc, .func, []⟩ := by kernel_rfl
theorem q82 : TyQ Tryz.prog 82 (some ⟨1, 8, .nfunc, .func, []⟩) := fun ti h => by cases h; exact ⟨y82, .inl rfl⟩
theorem y83 : mkTI Tryz.prog 83 = some ⟨1, 8, .nfunc, .func, []⟩ := by kernel_rfl
theorem q83 : TyQ Tryz.prog 83 (some ⟨1, 8, .nfunc, .func, []⟩) := fun ti h => by cases h; exact ⟨y83, .inl rfl⟩
theorem y85 : mkTI Tryz.prog 85 = some ⟨1, 8, .nfunc, .func, []⟩ := by kernel_rfl
theorem q85 : TyQ Tryz.prog 85 (some ⟨1, 8, .nfunc, .func, []⟩) := fun ti h => by cases h; exact ⟨y85, .inl rfl⟩
theorem y86 : mkTI Tryz.prog 86 = some ⟨3, 24, (.agg [(.int .i64 0), (.int .i64 0), (.int .i64 0)]), (.strct [(0, 3, 1), (1, 3, 1), (2, 3, 1)]), []⟩ := by kernel_rfl
theorem q86 : TyQ Tryz.prog 86 (some ⟨3, 24, (.agg [(.int .i64 0), (.int .i64 0), (.int .i64 0)]), (.strct [(0, 3, 1), (1, 3, 1), (2, 3, 1)]), []⟩) := fun ti h => by cases h; exact ⟨y86, .inl rfl⟩
theorem y87 : mkTI Tryz.prog 87 = some ⟨3, 24, (.agg [(.int .i64 0), (.int .i64 0), (.int .i64 0)]), (.strct [(0, 3, 1), (1, 3, 1), (2, 3, 1)]), []⟩ := by kernel_rfl
theorem z87 : flT Tryz.prog 87 = [.i, .i, .i] := by kernel_rfl
theorem q87 : TyQ Tryz.prog 87 (some ⟨3, 24, (.agg [(.int .i64 0), (.int .i64 0), (.int .i64 0)]), (.strct [(0, 3, 1), (1, 3, 1), (2, 3, 1)]), [.i, .i, .i]⟩) := fun ti h => by cases h; exact ⟨y87, .inr z87⟩
theorem y88 : mkTI Tryz.prog 88 = some ⟨6, 48, (.agg [(.int .i64 0), (.int .i64 0), (.int .i64 0), (.int .i64 0), (.int .i64 0), (.int .i64 0)]), (.array 2 87), []⟩ := by kernel_rfl
theorem q88 : TyQ Tryz.prog 88 (some ⟨6, 48, (.agg [(.int .i64 0), (.int .i64 0), (.int .i64 0), (.int .i64 0), (.int .i64 0), (.int .i64 0)]), (.array 2 87), []⟩) := fun ti h => by cases h; exact ⟨y88, .inl rfl⟩
theorem y89 : mkTI Tryz.prog 89 = some ⟨1, 8, .nfunc, .func, []⟩ := by kernel_rfl
theorem q89 : TyQ Tryz.prog 89 (some ⟨1, 8, .nfunc, .func, []⟩) := fun ti h => by cases h; exact ⟨y89, .inl rfl⟩
theorem y90 : mkTI Tryz.prog 90 = some ⟨1, 8, .nfunc, .func, []⟩ := by kernel_rfl
theorem q90 : TyQ Tryz.prog 90 (some ⟨1, 8, .nfunc, .func, []⟩) := fun ti h => by cases h; exact ⟨y90, .inl rfl⟩
theorem y91 : mkTI Tryz.prog 91 = some ⟨1, 8, .nfunc, .func, []⟩ := by kernel_rfl
theorem q91 : TyQ Tryz.prog 91 (some ⟨1, 8, .nfunc, .func, []⟩) := fun ti h => by cases h; exact ⟨y91, .inl rfl⟩
theorem y93 : mkTI Tryz.prog 93 = some ⟨1, 8, .nfunc, .func, []⟩ := by kernel_rfl
theorem q93 : TyQ Tryz.prog 93 (some ⟨1, 8, .nfunc, .func, []⟩) := fun ti h => by cases h; exact ⟨y93, .inl rfl⟩
theorem y94 : mkTI Tryz.prog 94 = some ⟨1, 8, .nfunc, .func, []⟩ := by kernel_rfl
theorem q94 : TyQ Tryz.prog 94 (some ⟨1, 8, .nfunc, .func, []⟩) := fun ti h => by cases h; exact ⟨y94, .inl rfl⟩
theorem y95 : mkTI Tryz.prog 95 = some ⟨1, 8, .nfunc, .func, []⟩ := by kernel_rfl
theorem q95 : TyQ Tryz.prog 95 (some ⟨1, 8, .nfunc, .func, []⟩) := fun ti h => by cases h; exact ⟨y95, .inl rfl⟩
theorem y96 : mkTI Tryz.prog 96 = some ⟨1, 8, .nfunc, .func, []⟩ := by kernel_rfl
theorem q96 : TyQ Tryz.prog 96 (some ⟨1, 8, .nfunc, .func, []⟩) := fun ti h => by cases h; exact ⟨y96, .inl rfl⟩
theorem y97 : mkTI Tryz.prog 97 = some ⟨1, 8, .nfunc, .func, []⟩ := by kernel_rfl
theorem q97 : TyQ Tryz.prog 97 (some ⟨1, 8, .nfunc, .func, []⟩) := fun ti h => by cases h; exact ⟨y97, .inl rfl⟩
theorem y98 : mkTI Tryz.prog 98 = some ⟨1, 8, .nfunc, .func, []⟩ := by kernel_rfl
theorem q98 : TyQ Tryz.prog 98 (some ⟨1, 8, .nfunc, .func, []⟩) := fun ti h => by cases h; exact ⟨y98, .inl rfl⟩
theorem y99 : mkTI Tryz.prog 99 = some ⟨1, 8, (.int .u64 0), (.int .u64), []⟩ := by kernel_rfl
theorem q99 : TyQ Tryz.prog 99 (some ⟨1, 8, (.int .u64 0), (.int .u64), []⟩) := fun ti h => by cases h; exact ⟨y99, .inl rfl⟩
theorem y100 : mkTI Tryz.prog 100 = some ⟨1, 8, .nfunc, .func, []⟩ := by kernel_rfl
theorem q100 : TyQ Tryz.prog 100 (some ⟨1, 8, .nfunc, .func, []⟩) := fun ti h => by cases h; exact ⟨y100, .inl rfl⟩
theorem y101 : mkTI Tryz.prog 101 = some ⟨1, 8, .nfunc, .func, []⟩ := by kernel_rfl
theorem q101 : TyQ Tryz.prog 101 (some ⟨1, 8, .nfunc, .func, []⟩) := fun ti h => by cases h; exact ⟨y101, .inl rfl⟩
theorem y102 : mkTI Tryz.prog 102 = some ⟨1, 8, .nfunc, .func, []⟩ := by kernel_rfl
theorem q102 : TyQ Tryz.prog 102 (some ⟨1, 8, .nfunc, .func, []⟩) := fun ti h => by cases h; exact ⟨y102, .inl rfl⟩
theorem y103 : mkTI Tryz.prog 103 = some ⟨1, 8, .nfunc, .func, []⟩ := by kernel_rfl
theorem q103 : TyQ Tryz.prog 103 (some ⟨1, 8, .nfunc, .func, []⟩) := fun ti h => by cases h; exact ⟨y103, .inl rfl⟩
theorem y104 : mkTI Tryz.prog 104 = some ⟨1, 8, .nfunc, .func, []⟩ := by kernel_rfl
theorem q104 : TyQ Tryz.prog 104 (some ⟨1, 8, .nfunc, .func, []⟩) := fun ti h => by cases h; exact ⟨y104, .inl rfl⟩
theorem y105 : mkTI Tryz.prog 105 = some ⟨1, 8, .nfunc, .func, []⟩ := by kernel_rfl
theorem q105 : TyQ Tryz.prog 105 (some ⟨1, 8, .nfunc, .func, []⟩) := fun ti h => by cases h; exact ⟨y105, .inl rfl⟩
theorem y106 : mkTI Tryz.prog 106 = some ⟨1, 8, .nfunc, .func, []⟩ := by kernel_rfl
theorem q106 : TyQ Tryz.prog 106 (some ⟨1, 8, .nfunc, .func, []⟩) := fun ti h => by cases h; exact ⟨y106, .inl rfl⟩
theorem y107 : mkTI Tryz.prog 107 = some ⟨1, 8, (.int .i64 0), (.int .i64), []⟩ := by kernel_rfl
theorem q107 : TyQ Tryz.prog 107 (some ⟨1, 8, (.int .i64 0), (.int .i64), []⟩) := fun ti h => by cases h; exact ⟨y107, .inl rfl⟩
theorem y109 : mkTI Tryz.prog 109 = some ⟨1, 8, .nfunc, .func, []⟩ := by kernel_rfl
theorem q109 : TyQ Tryz.prog 109 (some ⟨1, 8, .nfunc, .func, []⟩) := fun ti h => by cases h; exact ⟨y109, .inl rfl⟩
theorem y110 : mkTI Tryz.prog 110 = some ⟨1, 8, .nfunc, .func, []⟩ := by kernel_rfl
theorem q110 : TyQ Tryz.prog 110 (some ⟨1, 8, .nfunc, .func, []⟩) := fun ti h => by cases h; exact ⟨y110, .inl rfl⟩
theorem y111 : mkTI Tryz.prog 111 = some ⟨1, 8, .nfunc, .func, []⟩ := by kernel_rfl
theorem q111 : TyQ Tryz.prog 111 (some ⟨1, 8, .nfunc, .func, []⟩) := fun ti h => by cases h; exact ⟨y111, .inl rfl⟩
theorem y112 : mkTI Tryz.prog 112 = some ⟨1, 8, .nfunc, .func, []⟩ := by kernel_rfl
theorem q112 : TyQ Tryz.prog 112 (some ⟨1, 8, .nfunc, .func, []⟩) := fun ti h => by cases h; exact ⟨y112, .inl rfl⟩
theorem y113 : mkTI Tryz.prog 113 = some ⟨1, 4, (.int .u32 0), (.int .u32), []⟩ := by kernel_rfl
theorem q113 : TyQ Tryz.prog 113 (some ⟨1, 4, (.int .u32 0), (.int .u32), []⟩) := fun ti h => by cases h; exact ⟨y113, .inl rfl⟩
theorem y114 : mkTI Tryz.prog 114 = some ⟨1, 8, .nfunc, .func, []⟩ := by kernel_rfl
theorem q114 : TyQ Tryz.prog 114 (some ⟨1, 8, .nfunc, .func, []⟩) := fun ti h => by cases h; exact ⟨y114, .inl rfl⟩
theorem y115 : mkTI Tryz.prog 115 = some ⟨1, 8, (.int .u64 0), (.int .u64), []⟩ := by kernel_rfl
theorem q115 : TyQ Tryz.prog 115 (some ⟨1, 8, (.int .u64 0), (.int .u64), []⟩) := fun ti h => by cases h; exact ⟨y115, .inl rfl⟩
theorem y116 : mkTI Tryz.prog 116 = some ⟨1, 8, .nfunc, .func, []⟩ := by kernel_rfl
theorem q116 : TyQ Tryz.prog 116 (some ⟨1, 8, .nfunc, .func, []⟩) := fun ti h => by cases h; exact ⟨y116, .inl rfl⟩
theorem y117 : mkTI Tryz.prog 117 = some ⟨1, 8, (.int .u64 0), (.int .u64), []⟩ := by kernel_rfl
theorem q117 : TyQ Tryz.prog 117 (some ⟨1, 8, (.int .u64 0), (.int .u64), []⟩) := fun ti h => by cases h; exact ⟨y117, .inl rfl⟩
theorem y118 : mkTI Tryz.prog 118 = some ⟨1, 8, .nfunc, .func, []⟩ := by kernel_rfl
theorem q118 : TyQ Tryz.prog 118 (some ⟨1, 8, .nfunc, .func, []⟩) := fun ti h => by cases h; exact ⟨y118, .inl rfl⟩
theorem y119 : mkTI Tryz.prog 119 = some ⟨1, 8, .nfunc, .func, []⟩ := by kernel_rfl
theorem q119 : TyQ Tryz.prog 119 (some ⟨1, 8, .nfunc, .func, []⟩) := fun ti h => by cases h; exact ⟨y119, .inl rfl⟩
theorem y120 : mkTI Tryz.prog 120 = some ⟨1, 8, .nfunc, .func, []⟩ := by kernel_rfl
theorem q120 : TyQ Tryz.prog 120 (some ⟨1, 8, .nfunc, .func, []⟩) := fun ti h => by cases h; exact ⟨y120, .inl rfl⟩
theorem y121 : mkTI Tryz.prog 121 = some ⟨1, 8, .nptr, (.ptr 3), []⟩ := by kernel_rfl
theorem q121 : TyQ Tryz.prog 121 (some ⟨1, 8, .nptr, (.ptr 3), []⟩) := fun ti h => by cases h; exact ⟨y121, .inl rfl⟩
theorem y122 : mkTI Tryz.prog 122 = some ⟨1, 8, .nfunc, .func, []⟩ := by kernel_rfl
theorem q122 : TyQ Tryz.prog 122 (some ⟨1, 8, .nfunc, .func, []⟩) := fun ti h => by cases h; exact ⟨y122, .inl rfl⟩
theorem y123 : mkTI Tryz.prog 123 = some ⟨1, 8, .nptr, (.ptr 117), []⟩ := by kernel_rfl
theorem q123 : TyQ Tryz.prog 123 (some ⟨1, 8, .nptr, (.ptr 117), []⟩) := fun ti h => by cases h; exact ⟨y123, .inl rfl⟩
theorem y125 : mkTI Tryz.prog 125 = some ⟨1, 8, .nfunc, .func, []⟩ := by kernel_rfl
theorem q125 : TyQ Tryz.prog 125 (some ⟨1, 8, .nfunc, .func, []⟩) := fun ti h => by cases h; exact ⟨y125, .inl rfl⟩
theorem y126 : mkTI Tryz.prog 126 = some ⟨1, 8, .nfunc, .func, []⟩ := by kernel_rfl
theorem q126 : TyQ Tryz.prog 126 (some ⟨1, 8, .nfunc, .func, []⟩) := fun ti h => by cases h; exact ⟨y126, .inl rfl⟩
theorem y127 : mkTI Tryz.prog 127 = some ⟨4, 40, (.agg [.nptr, .nptr, .nptr, (.str [])]), (.strct [(0, 17, 1), (1, 17, 1), (2, 17, 1), (3, 9, 1)]), []⟩ := by kernel_rfl
theorem q127 : TyQ Tryz.prog 127 (some ⟨4, 40, (.agg [.nptr, .nptr, .nptr, (.str [])]), (.strct [(0, 17, 1), (1, 17, 1), (2, 17, 1), (3, 9, 1)]), []⟩) := fun ti h => by cases h; exact ⟨y127, .inl rfl⟩
theorem y128 : mkTI Tryz.prog 128 = some ⟨4, 40, (.agg [.nptr, .nptr, .nptr, (.str [])]), (.strct [(0, 17, 1), (1, 17, 1), (2, 17, 1), (3, 9, 1)]), []⟩ := by kernel_rfl
theorem q128 : TyQ Tryz.prog 128 (some ⟨4, 40, (.agg [.nptr, .nptr, .nptr, (.str [])]), (.strct [(0, 17, 1), (1, 17, 1), (2, 17, 1), (3, 9, 1)]), []⟩) := fun ti h => by cases h; exact ⟨y128, .inl rfl⟩
theorem y129 : mkTI Tryz.prog 129 = some ⟨0, 0, (.agg []), (.array 0 16), []⟩ := by kernel_rfl
theorem q129 : TyQ Tryz.prog 129 (some ⟨0, 0, (.agg []), (.array 0 16), []⟩) := fun ti h => by cases h; exact ⟨y129, .inl rfl⟩
theorem y130 : mkTI Tryz.prog 130 = some ⟨0, 0, (.agg []), (.strct [(0, 129, 0)]), []⟩ := by kernel_rfl
theorem q130 : TyQ Tryz.prog 130 (some ⟨0, 0, (.agg []), (.strct [(0, 129, 0)]), []⟩) := fun ti h => by cases h; exact ⟨y130, .inl rfl⟩
theorem y131 : mkTI Tryz.prog 131 = some ⟨0, 0, (.agg []), (.strct [(0, 129, 0)]), []⟩ := by kernel_rfl
theorem q131 : TyQ Tryz.prog 131 (some ⟨0, 0, (.agg []), (.strct [(0, 129, 0)]), []⟩) := fun ti h => by cases h; exact ⟨y131, .inl rfl⟩
theorem y132 : mkTI Tryz.prog 132 = some ⟨1, 1, (.int .u8 0), (.int .u8), []⟩ := by kernel_rfl
theorem q132 : TyQ Tryz.prog 132 (some ⟨1, 1, (.int .u8 0), (.int .u8), []⟩) := fun ti h => by cases h; exact ⟨y132, .inl rfl⟩
theorem y133 : mkTI Tryz.prog 133 = some ⟨1, 1, (.int .u8 0), (.int .u8), []⟩ := by kernel_rfl
theorem q133 : TyQ Tryz.prog 133 (some ⟨1, 1, (.int .u8 0), (.int .u8), []⟩) := fun ti h => by cases h; exact ⟨y133, .inl rfl⟩
theorem y134 : mkTI Tryz.prog 134 = some ⟨1, 8, .nfunc, .func, []⟩ := by kernel_rfl
theorem q134 : TyQ Tryz.prog 134 (some ⟨1, 8, .nfunc, .func, []⟩) := fun ti h => by cases h; exact ⟨y134, .inl rfl⟩
theorem y135 : mkTI Tryz.prog 135 = some ⟨1, 8, .nptr, (.ptr 5), []⟩ := by kernel_rfl
theorem q135 : TyQ Tryz.prog 135 (some ⟨1, 8, .nptr, (.ptr 5), []⟩) := fun ti h => by cases h; exact ⟨y135, .inl rfl⟩
theorem y136 : mkTI Tryz.prog 136 = some ⟨1, 4, (.int .i32 0), (.int .i32), []⟩ := by kernel_rfl
theorem q136 : TyQ Tryz.prog 136 (some ⟨1, 4, (.int .i32 0), (.int .i32), []⟩) := fun ti h => by cases h; exact ⟨y136, .inl rfl⟩
theorem y137 : mkTI Tryz.prog 137 = some ⟨1, 4, (.int .i32 0), (.int .i32), []⟩ := by kernel_rfl
theorem q137 : TyQ Tryz.prog 137 (some ⟨1, 4, (.int .i32 0), (.int .i32), []⟩) := fun ti h => by cases h; exact ⟨y137, .inl rfl⟩
theorem y138 : mkTI Tryz.prog 138 = some ⟨11, 48, (.agg [(.int .u64 0), (.int .u64 0), (.int .u32 0), (.int .u8 0), (.int .u8 0), (.int .u8 0), (.int .u8 0), .nfunc, .nptr, (.int .i32 0), (.int .i32 0)]), (.strct [(0, 12, 1), (1, 12, 1), (2, 113, 1), (3, 132, 1), (4, 5, 1), (5, 5, 1), (6, 133, 1), (7, 134, 1), (8, 135, 1), (9, 136, 1), (10, 137, 1)]), []⟩ := by kernel_rfl
theorem q138 : TyQ Tryz.prog 138 (some ⟨11, 48, (.agg [(.int .u64 0), (.int .u64 0), (.int .u32 0), (.int .u8 0), (.int .u8 0), (.int .u8 0), (.int .u8 0), .nfunc, .nptr, (.int .i32 0), (.int .i32 0)]), (.strct [(0, 12, 1), (1, 12, 1), (2, 113, 1), (3, 132, 1), (4, 5, 1), (5, 5, 1), (6, 133, 1), (7, 134, 1), (8, 135, 1), (9, 136, 1), (10, 137, 1)]), []⟩) := fun ti h => by cases h; exact ⟨y138, .inl rfl⟩
theorem y139 : mkTI Tryz.prog 139 = some ⟨11, 48, (.agg [(.int .u64 0), (.int .u64 0), (.int .u32 0), (.int .u8 0), (.int .u8 0), (.int .u8 0), (.int .u8 0), .nfunc, .nptr, (.int .i32 0), (.int .i32 0)]), (.strct [(0, 12, 1), (1, 12, 1), (2, 113, 1), (3, 132, 1), (4, 5, 1), (5, 5, 1), (6, 133, 1), (7, 134, 1), (8, 135, 1), (9, 136, 1), (10, 137, 1)]), []⟩ := by kernel_rfl
theorem q139 : TyQ Tryz.prog 139 (some ⟨11, 48, (.agg [(.int .u64 0), (.int .u64 0), (.int .u32 0), (.int .u8 0), (.int .u8 0), (.int .u8 0), (.int .u8 0), .nfunc, .nptr, (.int .i32 0), (.int .i32 0)]), (.strct [(0, 12, 1), (1, 12, 1), (2, 113, 1), (3, 132, 1), (4, 5, 1), (5, 5, 1), (6, 133, 1), (7, 134, 1), (8, 135, 1), (9, 136, 1), (10, 137, 1)]), []⟩) := fun ti h => by cases h; exact ⟨y139, .inl rfl⟩
theorem y140 : mkTI Tryz.prog 140 = some ⟨1, 8, .nptr, .other, []⟩ := by kernel_rfl
theorem q140 : TyQ Tryz.prog 140 (some ⟨1, 8, .nptr, .other, []⟩) := fun ti h => by cases h; exact ⟨y140, .inl rfl⟩
theorem g2 : FnQ Tryz.prog 2 (some ff2) := fun fi h => by cases h; kernel_rfl
theorem g3 : FnQ Tryz.prog 3 (some ff3) := fun fi h => by cases h; kernel_rfl
theorem g4 : FnQ Tryz.prog 4 (some ff4) := fun fi h => by cases h; kernel_rfl
theorem g5 : FnQ Tryz.prog 5 (some ff5) := fun fi h => by cases h; kernel_rfl
theorem g6 : FnQ Tryz.prog 6 (some ff6) := fun fi h => by cases h; kernel_rfl
theorem g7 : FnQ Tryz.prog 7 (some ff7) := fun fi h => by cases h; kernel_rfl
theorem g8 : FnQ Tryz.prog 8 (some ff8) := fun fi h => by cases h; kernel_rfl
theorem g9 : FnQ Tryz.prog 9 (some ff9) := fun fi h => by cases h; kernel_rfl
theorem g10 : FnQ Tryz.prog 10 (some ff10) := fun fi h => by cases h; kernel_rfl
theorem g11 : FnQ Tryz.prog 11 (some ff11) := fun fi h => by cases h; kernel_rfl
theorem g12 : FnQ Tryz.prog 12 (some ff12) := fun fi h => by cases h; kernel_rfl
theorem g13 : FnQ Tryz.prog 13 (some ff13) := fun fi h => by cases h; kernel_rfl
theorem g14 : FnQ Tryz.prog 14 (some ff14) := fun fi h => by cases h; kernel_rfl
theorem g15 : FnQ Tryz.prog 15 (some ff15) := fun fi h => by cases h; kernel_rfl
theorem g16 : FnQ Tryz.prog 16 (some ff16) := fun fi h => by cases h; kernel_rfl
theorem g17 : FnQ Tryz.prog 17 (some ff17) := fun fi h => by cases h; kernel_rfl
theorem g18 : FnQ Tryz.prog 18 (some ff18) := fun fi h => by cases h; kernel_rfl
theorem g19 : FnQ Tryz.prog 19 (some ff19) := fun fi h => by cases h; kernel_rfl
theorem g20 : FnQ Tryz.prog 20 (some ff20) := fun fi h => by cases h; kernel_rfl
theorem g21 : FnQ Tryz.prog 21 (some ff21) := fun fi h => by cases h; kernel_rfl
theorem g22 : FnQ Tryz.prog 22 (some ff22) := fun fi h => by cases h; kernel_rfl
theorem g23 : FnQ Tryz.prog 23 (some ff23) := fun fi h => by cases h; kernel_rfl
theorem g24 : FnQ Tryz.prog 24 (some ff24) := fun fi h => by cases h; kernel_rfl
theorem g25 : FnQ Tryz.prog 25 (some ff25) := fun fi h => by cases h; kernel_rfl
theorem g26 : FnQ Tryz.prog 26 (some ff26) := fun fi h => by cases h; kernel_rfl
theorem g27 : FnQ Tryz.prog 27 (some ff27) := fun fi h => by cases h; kernel_rfl
theorem g28 : FnQ Tryz.prog 28 (some ff28) := fun fi h => by cases h; kernel_rfl
theorem g29 : FnQ Tryz.prog 29 (some ff29) := fun fi h => by cases h; kernel_rfl
theorem g30 : FnQ Tryz.prog 30 (some ff30) := fun fi h => by cases h; kernel_rfl
theorem g31 : FnQ Tryz.prog 31 (some ff31) := fun fi h => by cases h; kernel_rfl
theorem g32 : FnQ Tryz.prog 32 (some ff32) := fun fi h => by cases h; kernel_rfl
theorem g33 : FnQ Tryz.prog 33 (some ff33) := fun fi h => by cases h; kernel_rfl
theorem g34 : FnQ Tryz.prog 34 (some ff34) := fun fi h => by cases h; kernel_rfl
theorem g35 : FnQ Tryz.prog 35 (some ff35) := fun fi h => by cases h; kernel_rfl
theorem g36 : FnQ Tryz.prog 36 (some ff36) := fun fi h => by cases h; kernel_rfl
theorem g37 : FnQ Tryz.prog 37 (some ff37) := fun fi h => by cases h; kernel_rfl
theorem g38 : FnQ Tryz.prog 38 (some ff38) := fun fi h => by cases h; kernel_rfl
theorem g39 : FnQ Tryz.prog 39 (some ff39) := fun fi h => by cases h; kernel_rfl
theorem g40 : FnQ Tryz.prog 40 (some ff40) := fun fi h => by cases h; kernel_rfl
theorem g41 : FnQ Tryz.prog 41 (some ff41) := fun fi h => by cases h; kernel_rfl
theorem g42 : FnQ Tryz.prog 42 (some ff42) := fun fi h => by cases h; kernel_rfl
theorem g43 : FnQ Tryz.prog 43 (some ff43) := fun fi h => by cases h; kernel_rfl
theorem g44 : FnQ Tryz.prog 44 (some ff44) := fun fi h => by cases h; kernel_rfl
theorem g45 : FnQ Tryz.prog 45 (some ff45) := fun fi h => by cases h; kernel_rfl
theorem g46 : FnQ Tryz.prog 46 (some ff46) := fun fi h => by cases h; kernel_rfl
theorem g47 : FnQ Tryz.prog 47 (some ff47) := fun fi h => by cases h; kernel_rfl
theorem g48 : FnQ Tryz.prog 48 (some ff48) := fun fi h => by cases h; kernel_rfl
theorem g49 : FnQ Tryz.prog 49 (some ff49) := fun fi h => by cases h; kernel_rfl
theorem g50 : FnQ Tryz.prog 50 (some ff50) := fun fi h => by cases h; kernel_rfl
theorem g51 : FnQ Tryz.prog 51 (some ff51) := fun fi h => by cases h; kernel_rfl
theorem g52 : FnQ Tryz.prog 52 (some ff52) := fun fi h => by cases h; kernel_rfl
theorem g53 : FnQ Tryz.prog 53 (some ff53) := fun fi h => by cases h; kernel_rfl
theorem g54 : FnQ Tryz.prog 54 (some ff54) := fun fi h => by cases h; kernel_rfl
theorem g55 : FnQ Tryz.prog 55 (some ff55) := fun fi h => by cases h; kernel_rfl
theorem g56 : FnQ Tryz.prog 56 (some ff56) := fun fi h => by cases h; kernel_rfl
theorem g57 : FnQ Tryz.prog 57 (some ff57) := fun fi h => by cases h; kernel_rfl
theorem g58 : FnQ Tryz.prog 58 (some ff58) := fun fi h => by cases h; kernel_rfl
theorem g59 : FnQ Tryz.prog 59 (some ff59) := fun fi h => by cases h; kernel_rfl
theorem g60 : FnQ Tryz.prog 60 (some ff60) := fun fi h => by cases h; kernel_rfl
theorem g61 : FnQ Tryz.prog 61 (some ff61) := fun fi h => by cases h; kernel_rfl
theorem g62 : FnQ Tryz.prog 62 (some ff62) := fun fi h => by cases h; kernel_rfl
theorem g63 : FnQ Tryz.prog 63 (some ff63) := fun fi h => by cases h; kernel_rfl
theorem g64 : FnQ Tryz.prog 64 (some ff64) := fun fi h => by cases h; kernel_rfl
theorem g65 : FnQ Tryz.prog 65 (some ff65) := fun fi h => by cases h; kernel_rfl
theorem g66 : FnQ Tryz.prog 66 (some ff66) := fun fi h => by cases h; kernel_rfl
theorem g67 : FnQ Tryz.prog 67 (some ff67) := fun fi h => by cases h; kernel_rfl
theorem g68 : FnQ Tryz.prog 68 (some ff68) := fun fi h => by cases h; kernel_rfl
theorem g69 : FnQ Tryz.prog 69 (some ff69) := fun fi h => by cases h; kernel_rfl
theorem g70 : FnQ Tryz.prog 70 (some ff70) := fun fi h => by cases h; kernel_rfl
theorem g71 : FnQ Tryz.prog 71 (some ff71) := fun fi h => by cases h; kernel_rfl
theorem g72 : FnQ Tryz.prog 72 (some ff72) := fun fi h => by cases h; kernel_rfl
theorem g73 : FnQ Tryz.prog 73 (some ff73) := fun fi h => by cases h; kernel_rfl
theorem g74 : FnQ Tryz.prog 74 (some ff74) := fun fi h => by cases h; kernel_rfl
theorem g75 : FnQ Tryz.prog 75 (some ff75) := fun fi h => by cases h; kernel_rfl
theorem g76 : FnQ Tryz.prog 76 (some ff76) := fun fi h => by cases h; kernel_rfl
theorem g77 : FnQ Tryz.prog 77 (some ff77) := fun fi h => by cases h; kernel_rfl
theorem g78 : FnQ Tryz.prog 78 (some ff78) := fun fi h => by cases h; kernel_rfl
theorem g79 : FnQ Tryz.prog 79 (some ff79) := fun fi h => by cases h; kernel_rfl
theorem g80 : FnQ Tryz.prog 80 (some ff80) := fun fi h => by cases h; kernel_rfl
theorem g81 : FnQ Tryz.prog 81 (some ff81) := fun fi h => by cases h; kernel_rfl
theorem g82 : FnQ Tryz.prog 82 (some ff82) := fun fi h => by cases h; kernel_rfl
theorem g83 : FnQ Tryz.prog 83 (some ff83) := fun fi h => by cases h; kernel_rfl
theorem g84 : FnQ Tryz.prog 84 (some ff84) := fun fi h => by cases h; kernel_rfl
theorem g85 : FnQ Tryz.prog 85 (some ff85) := fun fi h => by cases h; kernel_rfl
theorem g86 : FnQ Tryz.prog 86 (some ff86) := fun fi h => by cases h; kernel_rfl
theorem g87 : FnQ Tryz.prog 87 (some ff87) := fun fi h => by cases h; kernel_rfl
theorem g88 : FnQ Tryz.prog 88 (some ff88) := fun fi h => by cases h; kernel_rfl
theorem g89 : FnQ Tryz.prog 89 (some ff89) := fun fi h => by cases h; kernel_rfl
theorem g90 : FnQ Tryz.prog 90 (some ff90) := fun fi h => by cases h; kernel_rfl
theorem g91 : FnQ Tryz.prog 91 (some ff91) := fun fi h => by cases h; kernel_rfl
theorem g92 : FnQ Tryz.prog 92 (some ff92) := fun fi h => by cases h; kernel_rfl
theorem g93 : FnQ Tryz.prog 93 (some ff93) := fun fi h => by cases h; kernel_rfl
theorem g94 : FnQ Tryz.prog 94 (some ff94) := fun fi h => by cases h; kernel_rfl
theorem g95 : FnQ Tryz.prog 95 (some ff95) := fun fi h => by cases h; kernel_rfl
theorem g96 : FnQ Tryz.prog 96 (some ff96) := fun fi h => by cases h; kernel_rfl
theorem g97 : FnQ Tryz.prog 97 (some ff97) := fun fi h => by cases h; kernel_rfl
theorem g98 : FnQ Tryz.prog 98 (some ff98) := fun fi h => by cases h; kernel_rfl
theorem g99 : FnQ Tryz.prog 99 (some ff99) := fun fi h => by cases h; kernel_rfl
theorem g100 : FnQ Tryz.prog 100 (some ff100) := fun fi h => by cases h; kernel_rfl
theorem g101 : FnQ Tryz.prog 101 (some ff101) := fun fi h => by cases h; kernel_rfl
theorem g102 : FnQ Tryz.prog 102 (some ff102) := fun fi h => by cases h; kernel_rfl
theorem g103 : FnQ Tryz.prog 103 (some ff103) := fun fi h => by cases h; kernel_rfl
theorem g104 : FnQ Tryz.prog 104 (some ff104) := fun fi h => by cases h; kernel_rfl
theorem g105 : FnQ Tryz.prog 105 (some ff105) := fun fi h => by cases h; kernel_rfl
theorem g106 : FnQ Tryz.prog 106 (some ff106) := fun fi h => by cases h; kernel_rfl
theorem n1 (b : Nat) : TyQ Tryz.prog b none := fun _ h => by cases h
theorem n2 (b : Nat) : FnQ Tryz.prog b none := fun _ h => by cases h
theorem tyA : AllT (TyQ Tryz.prog) 8 0 1 ty := ⟨⟨⟨⟨⟨⟨⟨⟨q0, q128⟩, ⟨q64, (n1 _)⟩⟩, ⟨trivial, ⟨q96, (n1 _)⟩⟩⟩, ⟨⟨⟨q16, (n1 _)⟩, ⟨q80, (n1 _)⟩⟩, ⟨⟨q48, (n1 _)⟩, ⟨q112, (n1 _)⟩⟩⟩⟩, ⟨⟨⟨⟨q8, q136⟩, ⟨q72, (n1 _)⟩⟩, ⟨⟨q40, (n1 _)⟩, ⟨q104, (n1 _)⟩⟩⟩, ⟨⟨⟨q24, (n1 _)⟩, ⟨q88, (n1 _)⟩⟩, ⟨⟨q56, (n1 _)⟩, ⟨q120, (n1 _)⟩⟩⟩⟩⟩, ⟨⟨⟨⟨⟨q4, q132⟩, ⟨q68, (n1 _)⟩⟩, ⟨⟨q36, (n1 _)⟩, ⟨q100, (n1 _)⟩⟩⟩, ⟨⟨⟨q20, (n1 _)⟩, trivial⟩, ⟨⟨q52, (n1 _)⟩, ⟨q116, (n1 _)⟩⟩⟩⟩, ⟨⟨⟨⟨q12, q140⟩, ⟨q76, (n1 _)⟩⟩, ⟨⟨q44, (n1 _)⟩, trivial⟩⟩, ⟨⟨⟨q28, (n1 _)⟩, trivial⟩, ⟨⟨q60, (n1 _)⟩, trivial⟩⟩⟩⟩⟩, ⟨⟨⟨⟨⟨⟨q2, q130⟩, ⟨q66, (n1 _)⟩⟩, ⟨⟨q34, (n1 _)⟩, ⟨q98, (n1 _)⟩⟩⟩, ⟨⟨⟨q18, (n1 _)⟩, ⟨q82, (n1 _)⟩⟩, ⟨⟨q50, (n1 _)⟩, ⟨q114, (n1 _)⟩⟩⟩⟩, ⟨⟨⟨⟨q10, q138⟩, ⟨q74, (n1 _)⟩⟩, ⟨⟨q42, (n1 _)⟩, ⟨q106, (n1 _)⟩⟩⟩, ⟨⟨⟨q26, (n1 _)⟩, ⟨q90, (n1 _)⟩⟩, ⟨trivial, ⟨q122, (n1 _)⟩⟩⟩⟩⟩, ⟨⟨⟨⟨⟨q6, q134⟩, ⟨q70, (n1 _)⟩⟩, ⟨⟨q38, (n1 _)⟩, ⟨q102, (n1 _)⟩⟩⟩, ⟨⟨⟨q22, (n1 _)⟩, ⟨q86, (n1 _)⟩⟩, ⟨⟨q54, (n1 _)⟩, ⟨q118, (n1 _)⟩⟩⟩⟩, ⟨⟨⟨⟨q14, (n1 _)⟩, ⟨q78, (n1 _)⟩⟩, ⟨⟨q46, (n1 _)⟩, ⟨q110, (n1 _)⟩⟩⟩, ⟨⟨trivial, ⟨q94, (n1 _)⟩⟩, ⟨⟨q62, (n1 _)⟩, ⟨q126, (n1 _)⟩⟩⟩⟩⟩⟩⟩, ⟨⟨⟨⟨⟨⟨⟨q1, q129⟩, ⟨q65, (n1 _)⟩⟩, ⟨⟨q33, (n1 _)⟩, ⟨q97, (n1 _)⟩⟩⟩, ⟨⟨⟨q17, (n1 _)⟩, ⟨q81, (n1 _)⟩⟩, ⟨⟨q49, (n1 _)⟩, ⟨q113, (n1 _)⟩⟩⟩⟩, ⟨⟨⟨⟨q9, q137⟩, ⟨q73, (n1 _)⟩⟩, ⟨⟨q41, (n1 _)⟩, ⟨q105, (n1 _)⟩⟩⟩, ⟨⟨⟨q25, (n1 _)⟩, ⟨q89, (n1 _)⟩⟩, ⟨⟨q57, (n1 _)⟩, ⟨q121, (n1 _)⟩⟩⟩⟩⟩, ⟨⟨⟨⟨⟨q5, q133⟩, ⟨q69, (n1 _)⟩⟩, ⟨⟨q37, (n1 _)⟩, ⟨q101, (n1 _)⟩⟩⟩, ⟨⟨⟨q21, (n1 _)⟩, ⟨q85, (n1 _)⟩⟩, ⟨⟨q53, (n1 _)⟩, ⟨q117, (n1 _)⟩⟩⟩⟩, ⟨⟨⟨⟨q13, (n1 _)⟩, ⟨q77, (n1 _)⟩⟩, ⟨trivial, ⟨q109, (n1 _)⟩⟩⟩, ⟨⟨⟨q29, (n1 _)⟩, ⟨q93, (n1 _)⟩⟩, ⟨⟨q61, (n1 _)⟩, ⟨q125, (n1 _)⟩⟩⟩⟩⟩⟩, ⟨⟨⟨⟨⟨⟨q3, q131⟩, ⟨q67, (n1 _)⟩⟩, ⟨⟨q35, (n1 _)⟩, ⟨q99, (n1 _)⟩⟩⟩, ⟨⟨⟨q19, (n1 _)⟩, ⟨q83, (n1 _)⟩⟩, ⟨⟨q51, (n1 _)⟩, ⟨q115, (n1 _)⟩⟩⟩⟩, ⟨⟨⟨⟨q11, q139⟩, trivial⟩, ⟨⟨q43, (n1 _)⟩, ⟨q107, (n1 _)⟩⟩⟩, ⟨⟨⟨q27, (n1 _)⟩, ⟨q91, (n1 _)⟩⟩, ⟨⟨q59, (n1 _)⟩, ⟨q123, (n1 _)⟩⟩⟩⟩⟩, ⟨⟨⟨⟨⟨q7, q135⟩, ⟨q71, (n1 _)⟩⟩, ⟨trivial, ⟨q103, (n1 _)⟩⟩⟩, ⟨⟨⟨q23, (n1 _)⟩, ⟨q87, (n1 _)⟩⟩, ⟨⟨q55, (n1 _)⟩, ⟨q119, (n1 _)⟩⟩⟩⟩, ⟨⟨⟨⟨q15, (n1 _)⟩, ⟨q79, (n1 _)⟩⟩, ⟨⟨q47, (n1 _)⟩, ⟨q111, (n1 _)⟩⟩⟩, ⟨⟨⟨q31, (n1 _)⟩, ⟨q95, (n1 _)⟩⟩, ⟨⟨q63, (n1 _)⟩, ⟨q127, (n1 _)⟩⟩⟩⟩⟩⟩⟩⟩
theorem fnA : AllT (FnQ Tryz.prog) 7 0 1 fn := ⟨⟨⟨⟨⟨⟨⟨(n2 _), g64⟩, ⟨g32, g96⟩⟩, ⟨⟨g16, g80⟩, ⟨g48, (n2 _)⟩⟩⟩, ⟨⟨⟨g8, g72⟩, ⟨g40, g104⟩⟩, ⟨⟨g24, g88⟩, ⟨g56, (n2 _)⟩⟩⟩⟩, ⟨⟨⟨⟨g4, g68⟩, ⟨g36, g100⟩⟩, ⟨⟨g20, g84⟩, ⟨g52, (n2 _)⟩⟩⟩, ⟨⟨⟨g12, g76⟩, ⟨g44, (n2 _)⟩⟩, ⟨⟨g28, g92⟩, ⟨g60, (n2 _)⟩⟩⟩⟩⟩, ⟨⟨⟨⟨⟨g2, g66⟩, ⟨g34, g98⟩⟩, ⟨⟨g18, g82⟩, ⟨g50, (n2 _)⟩⟩⟩, ⟨⟨⟨g10, g74⟩, ⟨g42, g106⟩⟩, ⟨⟨g26, g90⟩, ⟨g58, (n2 _)⟩⟩⟩⟩, ⟨⟨⟨⟨g6, g70⟩, ⟨g38, g102⟩⟩, ⟨⟨g22, g86⟩, ⟨g54, (n2 _)⟩⟩⟩, ⟨⟨⟨g14, g78⟩, ⟨g46, (n2 _)⟩⟩, ⟨⟨g30, g94⟩, ⟨g62, (n2 _)⟩⟩⟩⟩⟩⟩, ⟨⟨⟨⟨⟨⟨(n2 _), g65⟩, ⟨g33, g97⟩⟩, ⟨⟨g17, g81⟩, ⟨g49, (n2 _)⟩⟩⟩, ⟨⟨⟨g9, g73⟩, ⟨g41, g105⟩⟩, ⟨⟨g25, g89⟩, ⟨g57, (n2 _)⟩⟩⟩⟩, ⟨⟨⟨⟨g5, g69⟩, ⟨g37, g101⟩⟩, ⟨⟨g21, g85⟩, ⟨g53, (n2 _)⟩⟩⟩, ⟨⟨⟨g13, g77⟩, ⟨g45, (n2 _)⟩⟩, ⟨⟨g29, g93⟩, ⟨g61, (n2 _)⟩⟩⟩⟩⟩, ⟨⟨⟨⟨⟨g3, g67⟩, ⟨g35, g99⟩⟩, ⟨⟨g19, g83⟩, ⟨g51, (n2 _)⟩⟩⟩, ⟨⟨⟨g11, g75⟩, ⟨g43, (n2 _)⟩⟩, ⟨⟨g27, g91⟩, ⟨g59, (n2 _)⟩⟩⟩⟩, ⟨⟨⟨⟨g7, g71⟩, ⟨g39, g103⟩⟩, ⟨⟨g23, g87⟩, ⟨g55, (n2 _)⟩⟩⟩, ⟨⟨⟨g15, g79⟩, ⟨g47, (n2 _)⟩⟩, ⟨⟨g31, g95⟩, ⟨g63, (n2 _)⟩⟩⟩⟩⟩⟩⟩
theorem xs : ∀ g, ExtQ Tryz.prog g (ext g) := fun _ => trivial
theorem ok : Ok Tryz.prog pr := ok_of tyA fnA rfl rfl (by kernel_rfl) xs
theorem lb : LibOk Tryz.prog pr := lib_none fun _ => rfl
end Go.Proofs.YtmgkeeefbfefgaaGreat.Pt
end
section
namespace Go.Proofs.YtmgkeeefbfefgaaGreat
open Go Go.Proofs Go.Eng Go.Run Tab
set_option maxRecDepth 100000
set_option linter.unusedSimpArgs false
set_option linter.unusedVariables false
set_option linter.defProp false
set_option maxHeartbeats 1000000
set_option linter.defProp false
def M4Fs41 := (And.intro (And.intro (And.intro @agg79 @agg87) (And.intro @fo81_1 @inf79)) (And.intro (And.intro @inf87 @sz79) (And.intro @sz87 (And.intro @zero87 @Tryz.underlying88))))
def M4Fs65 := (And.intro (And.intro (And.intro (And.intro @agg22 @agg3) (And.intro @agg88 (And.intro @by72 @fo24_2))) (And.intro (And.intro @fo72_0 (And.intro @fo72_1 @fo81_0)) (And.intro @fps87_0 (And.intro @fps87_1 @fps87_2)))) (And.intro (And.intro (And.intro @inf22 (And.intro @inf3 @inf72)) (And.intro @inf88 (And.intro @okf87 @sz22))) (And.intro (And.intro @sz3 (And.intro @sz72 @sz88)) (And.intro @zero87 (And.intro @zero88 @Tryz.underlying22)))))
theorem build_arrT {P : Program} {t el : TypeId} {n s : Nat} {z : Value} (hu : P.underlying t = some (.array n el)) (hi : (P.info? el).isSome = true) (hs : szT P el = s) (hz : zeroT P t = some z) {xs : Array (Nat × Operand)} {ty : TypeId} {er : Eng.Env} {h : Eng.Heap} {r : List Value} {K : Value → Eng.Heap → Prop} (hf : fillL (fun i => some (i * s, s)) z.cells.toList (xs.map fun (i, x) => (i, ev er x)).toList = some r) (H : K (.agg r.toArray) h) : opSem P (.build t xs) ty er h K := by
  obtain ⟨inf, hinf⟩ := Option.isSome_iff_exists.1 hi
  have hsz : inf.size = s := by simpa [szT, hinf] using hs
  have q3 := fillL_eq _ _ _ hf
  refine opSem_pure rfl _ H fun w _ => ?_
  have hz' : (zeroValue t).run P w = .ok z w := by
    unfold zeroT at hz
    cases hi : P.info? t with
    | none => simp [hi] at hz
    | some i => simp only [hi, Option.bind_some] at hz; simp [zeroValue, typeInfo, hi, hz]
  simp only [execOp, Instr.build, Sem.run_bind, hz', Result.andThen_ok, run_underlying hu]
  simp only [Array.toList_map] at q3
  simp [sizeOf, typeInfo, hinf, hsz, q3]
theorem opQS_build {P : Program} {t el : TypeId} {n s : Nat} {z : Value} (hu : P.underlying t = some (.array n el)) (hi : (P.info? el).isSome = true) (hs : szT P el = s) (hz : zeroT P t = some z) {xs : Array (Nat × Operand)} {ty : TypeId} {er : Eng.Env} {h : Eng.Heap} {r : List Value} {K : Value → Eng.Heap → Prop} (hf : fillL (fun i => some (i * s, s)) z.cells.toList (xs.map fun (i, x) => (i, ev er x)).toList = some r) (H : K (.agg r.toArray) h) : opQS P EqH (.build t xs) ty er h K := by
  unfold opQS
  exact ⟨_, fun h' e => by have e : h' = h := e; subst e; exact build_arrT hu hi hs hz hf ⟨rfl, rfl⟩, H⟩
theorem okf88 : okFields Tryz.prog 88 = false := by kernel_rfl
theorem spots85 (g b S M : Nat) (a : Option Addr) (n c : Nat) (ws : List Wn) (i : Nat) (d : Int) (h : Eng.Heap) (hg : DeskB h g b S M a n c) (hr : Row h a (wsV ws)) (hn : n = ws.length) (hi : i < ws.length) :
    CallsH Tryz.prog 65 #[.pointer (some ⟨g, 0, none⟩), .int .i64 i, .int .i64 d] h (fun v h' => v = .agg #[.int .i64 0, .int .i64 (wAt ws i).s, .int .i64 d, .int .i64 1, .int .i64 (wAt ws i).m, .int .i64 d] ∧ Ext h h') := by
  unfold DeskB at hg
  (refine CallsH_of_exec Tryz.func65 rfl bod65 ?_; simp only [Tryz.ntmps65, Tryz.results65, coreS, stK_some, splice, Value.cells, Value.oneCell', Nat.reduceAdd, Nat.reduceSub, Nat.reduceMul, Nat.reduceLeDiff, Int.reduceEq, Nat.reduceEqDiff, M4Fs65])
  have hne : ¬ (g = h.size) := by have := lt_of_get hg; omega
  have hr0 := hr.push (.cells #[.int .i64 0, .int .i64 0, .int .i64 0, .int .i64 0, .int .i64 0, .int .i64 0] 88)
  have fa := faR hr hi
  have c0 := cellW0 hr0 hi
  have c1 := cellW1 hr0 hi
  have hsm := rowW_some hr hi
  refine WP_draw (by kernel_rfl) sta_eq [(0, 0), (1, 0), (2, 0), (3, 0), (4, 0), (5, 0), (6, 0), (7, 0), (8, 0), (9, 0), (10, 0), (11, 0), (12, 0), (13, 0), (14, 0), (15, 0), (16, 0), (17, 0), (18, 0), (19, 0), (20, 0), (21, 0), (22, 0), (23, 1)] (by kernel_rfl) rfl (by kernel_rfl) ?_
  simp only [hne, hg, if_false, fa, c0, c1, hvK_eq, coreS, stK_some, splice, Value.cells, Value.oneCell', Nat.reduceAdd, Nat.reduceSub, Nat.reduceMul, Nat.reduceLeDiff, Int.reduceEq, Nat.reduceEqDiff, drawS, M4Fs65]
  refine ⟨⟨by omega, by omega⟩, hsm, ⟨by omega, by omega⟩, hsm, ?_⟩
  simp only [okf88, bldO_no]
  refine opQS_build Tryz.underlying88 inf87 sz87 zero88 (r := [.int .i64 0, .int .i64 (wAt ws i).s, .int .i64 d, .int .i64 1, .int .i64 (wAt ws i).m, .int .i64 d]) (by simp [fillL, coreS, stK_some, splice, Value.cells, Value.oneCell', Nat.reduceAdd, Nat.reduceSub, Nat.reduceMul, Nat.reduceLeDiff, Int.reduceEq, Nat.reduceEqDiff, drawS, M4Fs65]) ?_
  simp only [hvK_eq, coreS, stK_some, splice, Value.cells, Value.oneCell', Nat.reduceAdd, Nat.reduceSub, Nat.reduceMul, Nat.reduceLeDiff, Int.reduceEq, Nat.reduceEqDiff, drawS, M4Fs65]
  exact ((Ext.refl h).push _)
abbrev Sk := Nat × Nat × Nat
def kvS (k : Sk) : Value := .agg #[.int .i64 (k.1 : Nat), .int .i64 (k.2.1 : Nat), .int .i64 (k.2.2 : Nat)]
theorem keysS : Keys Tryz.prog 87 kvS := by
  refine Keys.flat (ki := (Pt.pr.ty 87).getD ⟨0, 0, .any, .other, []⟩) (kf := fun p => .agg [.int .i64 (p.1 : Nat), .int .i64 (p.2.1 : Nat), .int .i64 (p.2.2 : Nat)]) (by rw [Tryz.underlying87]) (Pt.ok.tf (by kernel_rfl)) (fun p => ?_) (fun p q => ?_)
  · simp only [VR]
    exact ⟨_, rfl, by simpa [Eng.ints] using vl_ints (ι := fun _ => none) [(p.1 : Int), (p.2.1 : Int), (p.2.2 : Int)]⟩
  · have hb := beqF_ints [(p.1 : Int), (p.2.1 : Int), (p.2.2 : Int)] [(q.1 : Int), (q.2.1 : Int), (q.2.2 : Int)] rfl
    have hd : decide ([(p.1 : Int), (p.2.1 : Int), (p.2.2 : Int)] = [(q.1 : Int), (q.2.1 : Int), (q.2.2 : Int)]) = decide (p = q) := by
      rw [decide_eq_decide]
      obtain ⟨a, b, c⟩ := p
      obtain ⟨d, e, f⟩ := q
      simp
      omega
    rw [hd] at hb
    exact hb
theorem idsW_arr {cs : Array Value} {q : IntKind} {n : Int} {m : Nat} {el : TypeId} {h : Eng.Heap} {K : Value → Eng.Heap → Prop} {F : Prop} : idsW (.agg cs) (.int q n) (some (.array m el)) h K F = F := by unfold idsW; rfl
theorem index_arrT {P : Program} {t el : TypeId} {len s : Nat} (hu : P.underlying t = some (.array len el)) (ha : aggT P el = some true) (hi : (P.info? el).isSome = true) (hs : szT P el = s) {x i : Operand} {cs : List Value} {j : Nat} {ty : TypeId} {er : Eng.Env} {h : Eng.Heap} {K : Value → Eng.Heap → Prop} (hx : ev er x = .agg cs.toArray) (hj : ev er i = .int .i64 j) (hl : j < len) (H : K (.agg ((cs.drop (j * s)).take s).toArray) h) : opSem P (.index t x i) ty er h K := by
  obtain ⟨inf, hinf⟩ := Option.isSome_iff_exists.1 hi
  have hsz : inf.size = s := by simpa [szT, hinf] using hs
  obtain ⟨v, h1, h2⟩ := part_sound (P := P) (t := el) (cs := cs.toArray) (off := j * inf.size) (h := h) (K := fun v _ => v = .agg ((cs.drop (j * s)).take s).toArray) (by
    simp only [partW, ha, hi, hsz, hs, List.toList_toArray, true_and])
  subst h1
  refine opSem_pure rfl _ H fun w _ => ?_
  have hr : (0 : Int) ≤ (j : Int) ∧ (j : Int) < len := ⟨by omega, by omega⟩
  simp [execOp, Instr.index, hx, hj, asIntOf, run_underlying hu, hr, sizeOf, typeInfo, hinf, h2]
  intro hh; omega
theorem opQS_get {P : Program} {u kt vt : TypeId} {α : Type} [DecidableEq α] {kv : α → Value} {z : Value} (hu : P.underlying u = some (.map kt vt)) (hz : zeroT P vt = some z) (K : Keys P kt kv) {h : Eng.Heap} {er : Eng.Env} {ty : TypeId} {b c : Nat} {es : List (α × Value × Nat)} (M : MapV kv h b es c) {a : α} {ok : Bool} {x k : Operand} {Q : Value → Eng.Heap → Prop} (hx : ev er x = .map (some b)) (hk : ev er k = kv a)
    (H : Q (if ok then .tuple #[(getA a es).getD z, .bool (getA a es).isSome] else (getA a es).getD z) h) : opQS P EqH (.lookup u x k ok) ty er h Q := by
  unfold opQS
  refine ⟨_, fun h' e => ?_, H⟩
  have e : h' = h := e
  subst e
  exact map_getT hu hz K M hx hk ⟨rfl, rfl⟩
def held (sh mo : Nat → Nat) (L : List (Nat × Nat)) (k : Sk) : Bool := L.any fun x => k == (0, sh x.1, x.2) || k == (1, mo x.1, x.2)
structure Hold (sh mo : Nat → Nat) (es : List (Sk × Value × Nat)) (L : List (Nat × Nat)) : Prop where
  nd : (es.map (·.1)).Nodup
  get : ∀ k, (getA k es).isSome = held sh mo L k
def fits (sh mo : Nat → Nat) (L : List (Nat × Nat)) (i d : Nat) : Bool := !held sh mo L (0, sh i, d) && !held sh mo L (1, mo i, d)
theorem Hold.nil {sh mo : Nat → Nat} : Hold sh mo [] [] := ⟨List.nodup_nil, fun k => rfl⟩
theorem getA_none {k : Sk} {es : List (Sk × Value × Nat)} (h : (getA k es).isSome = false) : getA k es = none := by simpa using h
theorem Hold.add {sh mo : Nat → Nat} {es : List (Sk × Value × Nat)} {L : List (Nat × Nat)} (H : Hold sh mo es L) (i d : Nat) (v : Value) (c c' : Nat) : Hold sh mo (putA (1, mo i, d) v c' (putA (0, sh i, d) v c es)) (L ++ [(i, d)]) := by
  refine ⟨put_nodup (put_nodup H.nd), fun k => ?_⟩
  rw [getA_put, getA_put]
  have := H.get k
  unfold held at this ⊢
  rw [List.any_append, ← this]
  by_cases h1 : k = (1, mo i, d)
  · simp [h1]
  by_cases h0 : k = (0, sh i, d)
  · rw [if_neg h1, if_pos h0]; simp [h0]
  · rw [if_neg h1, if_neg h0]; simp [h0, h1]
theorem hang53 (g b S M : Nat) (a : Option Addr) (n c : Nat) (ws : List Wn) (i d : Nat) (es : List (Sk × Value × Nat)) (c0 : Nat) (L : List (Nat × Nat)) (h : Eng.Heap) (hg : DeskB h g b S M a n c) (hr : Row h a (wsV ws)) (hn : n = ws.length) (V : Vb S M ws) (hi : i < ws.length) (Mp : MapV kvS h b es c0) (H : Hold (shN ws) (moN ws) es L) :
    CallsH Tryz.prog 41 #[.pointer (some ⟨g, 0, none⟩), .int .i64 i, .int .i64 d] h (fun v h' => v = .bool (fits (shN ws) (moN ws) L i d) ∧ Chg h h' b ∧ ∃ es' c', MapV kvS h' b es' c' ∧ Hold (shN ws) (moN ws) es' (if fits (shN ws) (moN ws) L i d then L ++ [(i, d)] else L)) := by
  have hgb : g ≠ b := fun e => by have h1 := Mp.obj; unfold DeskB at hg; rw [e, h1] at hg; cases hg
  have hs := (V.s hi).1
  have hm := (V.m hi).1
  (refine CallsH_of_exec Tryz.func41 rfl bod41 ?_; simp only [Tryz.ntmps41, Tryz.results41, coreS, stK_some, splice, Value.cells, Value.oneCell', Nat.reduceAdd, Nat.reduceSub, Nat.reduceMul, Nat.reduceLeDiff, Int.reduceEq, Nat.reduceEqDiff, M4Fs41])
  refine CallsH.mono (spots85 g b S M a n c ws i d h hg hr hn hi) ?_
  rintro v h1 ⟨rfl, x1⟩
  rw [hs, hm]
  simp only [coreS, Value.cells, Value.oneCell', Nat.reduceAdd, Nat.reduceSub, Nat.reduceMul, Nat.reduceLeDiff, Int.reduceEq, Nat.reduceEqDiff, M4Fs41]
  refine WP_loopI [6, 8, 9, 10, 17, 18, 19, 20, 21, 22, 23, 24, 25, 26, 27, 28, 29, 30] (fun e h' => Ext h h' ∧ ∃ j : Nat, j ≤ 2 ∧ e 17 = .int .i64 j ∧ (0 < j → getA (0, shN ws i, d) es = none) ∧ (1 < j → getA (1, moN ws i, d) es = none)) (fun e _ => match e 17 with | .int _ q => 2 - q.toNat | _ => 0) ⟨x1, 0, by omega, rfl, by omega, by omega⟩ ?_
  rintro e h' ⟨x, j, hj, he, hn0, hn1⟩
  have hg' : h'[g]? = some (.cells #[.int .i64 S, .int .i64 M, .slice a n c, .map (some b)] 81) := x.get hg
  have Mp' := Mp.ext x
  have rnd : ∀ (k : Sk) (cs : List Value), ((cs = [.int .i64 0, .int .i64 (shN ws i : Nat), .int .i64 (d : Nat)] ∧ k = (0, shN ws i, d)) ∨ (cs = [.int .i64 1, .int .i64 (moN ws i : Nat), .int .i64 (d : Nat)] ∧ k = (1, moN ws i, d))) → Value.agg cs.toArray = kvS k := by
    rintro k cs (⟨rfl, rfl⟩ | ⟨rfl, rfl⟩) <;> rfl
  by_cases hj0 : j = 0
  · subst hj0
    have he : e 17 = .int .i64 0 := he
    simp only [he, idsW_arr, show ((0 : Int) < 2) by omega, decide_true, coreS, Value.cells, Value.oneCell', Nat.reduceAdd, Nat.reduceSub, Nat.reduceMul, Nat.reduceLeDiff, Int.reduceEq, Nat.reduceEqDiff, M4Fs41]
    refine index_arrT (j := 0) Tryz.underlying88 agg87 inf87 sz87 rfl rfl (by omega) ?_
    simp only [List.drop, List.take, stK_some, splice, coreS, stK_some, splice, Value.cells, Value.oneCell', Nat.reduceAdd, Nat.reduceSub, Nat.reduceMul, Nat.reduceLeDiff, Int.reduceEq, Nat.reduceEqDiff, M4Fs41]
    have hgl := lt_of_get hg'
    have y := x.push (.cells #[.int .i64 0, .int .i64 (shN ws i : Nat), .int .i64 (d : Nat)] 87)
    have hgn : ¬ (g = h'.size) := by omega
    refine WP_draw (by kernel_rfl) sta_eq [(0, 0), (1, 0), (2, 0), (3, 0), (4, 0), (5, 0), (6, 0), (7, 0), (8, 0), (9, 0), (10, 0)] (by kernel_rfl) rfl (by kernel_rfl) ?_
    simp only [hg', hgn, if_false, hvK_eq, coreS, Value.cells, Value.oneCell', Nat.reduceAdd, Nat.reduceSub, Nat.reduceMul, Nat.reduceLeDiff, Int.reduceEq, Nat.reduceEqDiff, drawS, M4Fs41]
    refine opQS_get Tryz.underlying79 zero3 keysS (Mp'.ext ((Ext.refl h').push _)) (a := (0, shN ws i, d)) rfl rfl ?_
    simp only [if_true, hvK_eq, coreS, Value.cells, Value.oneCell', Nat.reduceAdd, Nat.reduceSub, Nat.reduceMul, Nat.reduceLeDiff, Int.reduceEq, Nat.reduceEqDiff, drawS, M4Fs41]
    cases hq : (getA (0, shN ws i, d) es).isSome with
    | true =>
      have hf : fits (shN ws) (moN ws) L i d = false := by unfold fits; rw [← H.get, ← H.get, hq]; simp
      simp only [hf, coreS, Value.cells, Value.oneCell', Nat.reduceAdd, Nat.reduceSub, Nat.reduceMul, Nat.reduceLeDiff, Int.reduceEq, Nat.reduceEqDiff, M4Fs41]
      exact ⟨Chg.of_ext y b, es, c0, Mp.ext y, by simpa using H⟩
    | false =>
      simp only [coreS, Value.cells, Value.oneCell', Nat.reduceAdd, Nat.reduceSub, Nat.reduceMul, Nat.reduceLeDiff, Int.reduceEq, Nat.reduceEqDiff, M4Fs41]
      refine ⟨by rw [inK_i64]; omega, roundK_mk (by kernel_rfl) ⟨y, 1, by omega, rfl, fun _ => getA_none hq, fun hh => absurd hh (by omega)⟩ ?_⟩
      show 2 - (0 + 1 : Int).toNat < 2 - (0 : Int).toNat
      omega
  by_cases hj1 : j = 1
  · subst hj1
    have he : e 17 = .int .i64 1 := he
    simp only [he, idsW_arr, show ((1 : Int) < 2) by omega, decide_true, coreS, Value.cells, Value.oneCell', Nat.reduceAdd, Nat.reduceSub, Nat.reduceMul, Nat.reduceLeDiff, Int.reduceEq, Nat.reduceEqDiff, M4Fs41]
    refine index_arrT (j := 1) Tryz.underlying88 agg87 inf87 sz87 rfl rfl (by omega) ?_
    simp only [List.drop, List.take, stK_some, splice, coreS, stK_some, splice, Value.cells, Value.oneCell', Nat.reduceAdd, Nat.reduceSub, Nat.reduceMul, Nat.reduceLeDiff, Int.reduceEq, Nat.reduceEqDiff, M4Fs41]
    have hgl := lt_of_get hg'
    have y := x.push (.cells #[.int .i64 1, .int .i64 (moN ws i : Nat), .int .i64 (d : Nat)] 87)
    have hgn : ¬ (g = h'.size) := by omega
    refine WP_draw (by kernel_rfl) sta_eq [(0, 0), (1, 0), (2, 0), (3, 0), (4, 0), (5, 0), (6, 0), (7, 0), (8, 0), (9, 0), (10, 0)] (by kernel_rfl) rfl (by kernel_rfl) ?_
    simp only [hg', hgn, if_false, hvK_eq, coreS, Value.cells, Value.oneCell', Nat.reduceAdd, Nat.reduceSub, Nat.reduceMul, Nat.reduceLeDiff, Int.reduceEq, Nat.reduceEqDiff, drawS, M4Fs41]
    refine opQS_get Tryz.underlying79 zero3 keysS (Mp'.ext ((Ext.refl h').push _)) (a := (1, moN ws i, d)) rfl rfl ?_
    simp only [if_true, hvK_eq, coreS, Value.cells, Value.oneCell', Nat.reduceAdd, Nat.reduceSub, Nat.reduceMul, Nat.reduceLeDiff, Int.reduceEq, Nat.reduceEqDiff, drawS, M4Fs41]
    cases hq : (getA (1, moN ws i, d) es).isSome with
    | true =>
      have hf : fits (shN ws) (moN ws) L i d = false := by unfold fits; rw [← H.get, ← H.get, hq]; simp
      simp only [hf, coreS, Value.cells, Value.oneCell', Nat.reduceAdd, Nat.reduceSub, Nat.reduceMul, Nat.reduceLeDiff, Int.reduceEq, Nat.reduceEqDiff, M4Fs41]
      exact ⟨Chg.of_ext y b, es, c0, Mp.ext y, by simpa using H⟩
    | false =>
      simp only [coreS, Value.cells, Value.oneCell', Nat.reduceAdd, Nat.reduceSub, Nat.reduceMul, Nat.reduceLeDiff, Int.reduceEq, Nat.reduceEqDiff, M4Fs41]
      refine ⟨by rw [inK_i64]; omega, roundK_mk (by kernel_rfl) ⟨y, 2, by omega, rfl, fun _ => hn0 (by omega), fun _ => getA_none hq⟩ ?_⟩
      show 2 - (1 + 1 : Int).toNat < 2 - (1 : Int).toNat
      omega
  obtain rfl : j = 2 := by omega
  have he : e 17 = .int .i64 2 := he
  simp only [he, show ¬ ((2 : Int) < 2) by omega, decide_false, coreS, Value.cells, Value.oneCell', Nat.reduceAdd, Nat.reduceSub, Nat.reduceMul, Nat.reduceLeDiff, Int.reduceEq, Nat.reduceEqDiff, M4Fs41]
  have k0 := hn0 (by omega)
  have k1 := hn1 (by omega)
  have hf : fits (shN ws) (moN ws) L i d = true := by unfold fits; rw [← H.get, ← H.get, k0, k1]; rfl
  rw [hf]
  refine CallsH.mono (spots85 g b S M a n c ws i d h' hg' (hr.ext x) hn hi) ?_
  rintro v h2 ⟨rfl, x2⟩
  rw [hs, hm]
  simp only [coreS, Value.cells, Value.oneCell', Nat.reduceAdd, Nat.reduceSub, Nat.reduceMul, Nat.reduceLeDiff, Int.reduceEq, Nat.reduceEqDiff, M4Fs41]
  have Mp2 := Mp'.ext x2
  have hg2 := x2.get hg'
  have y2 := x.trans x2
  clear x x2 hg' Mp' Mp hg he rnd
  refine WP_loopI [12, 35, 36, 37, 38, 39, 40, 41, 42, 43, 44] (fun e h' => Chg h h' b ∧ h'[g]? = some (.cells #[.int .i64 S, .int .i64 M, .slice a n c, .map (some b)] 81) ∧ ((e 35 = .int .i64 0 ∧ MapV kvS h' b es c0) ∨ (e 35 = .int .i64 1 ∧ ∃ c1, MapV kvS h' b (putA (0, shN ws i, d) (.int .i64 i) c0 es) c1) ∨ (e 35 = .int .i64 2 ∧ ∃ c1 c2, MapV kvS h' b (putA (1, moN ws i, d) (.int .i64 i) c1 (putA (0, shN ws i, d) (.int .i64 i) c0 es)) c2))) (fun e _ => match e 35 with | .int _ q => 2 - q.toNat | _ => 0) ⟨Chg.of_ext y2 b, hg2, .inl ⟨rfl, Mp2⟩⟩ ?_
  rintro e h3 ⟨ch, hg3, ⟨he, M3⟩ | ⟨he, c1, M3⟩ | ⟨he, c1, c2, M3⟩⟩
  · simp only [he, idsW_arr, show ((0 : Int) < 2) by omega, decide_true, coreS, Value.cells, Value.oneCell', Nat.reduceAdd, Nat.reduceSub, Nat.reduceMul, Nat.reduceLeDiff, Int.reduceEq, Nat.reduceEqDiff, M4Fs41]
    refine index_arrT (j := 0) Tryz.underlying88 agg87 inf87 sz87 rfl rfl (by omega) ?_
    simp only [List.drop, List.take, stK_some, splice, coreS, stK_some, splice, Value.cells, Value.oneCell', Nat.reduceAdd, Nat.reduceSub, Nat.reduceMul, Nat.reduceLeDiff, Int.reduceEq, Nat.reduceEqDiff, M4Fs41]
    have hgl := lt_of_get hg3
    have hgn : ¬ (g = h3.size) := by omega
    refine WP_draw (by kernel_rfl) sta_eq [(0, 0), (1, 0), (2, 0), (3, 0), (4, 0), (5, 0), (6, 1)] (by kernel_rfl) rfl (by kernel_rfl) ?_
    simp only [hg3, hgn, if_false, hvK_eq, coreS, Value.cells, Value.oneCell', Nat.reduceAdd, Nat.reduceSub, Nat.reduceMul, Nat.reduceLeDiff, Int.reduceEq, Nat.reduceEqDiff, drawS, M4Fs41]
    refine map_putT Tryz.underlying79 keysS (M3.ext ((Ext.refl h3).push _)) (a := (0, shN ws i, d)) (v := .int .i64 i) rfl rfl rfl fun h4 M4 u4 => ?_
    simp only [hvK_eq, coreS, Value.cells, Value.oneCell', Nat.reduceAdd, Nat.reduceSub, Nat.reduceMul, Nat.reduceLeDiff, Int.reduceEq, Nat.reduceEqDiff, drawS, M4Fs41]
    refine ⟨by rw [inK_i64]; omega, roundK_mk (by kernel_rfl) ⟨(ch.push _).upd u4, u4.get (push_old hg3) hgb, .inr (.inl ⟨rfl, _, M4⟩)⟩ ?_⟩
    show 2 - (0 + 1 : Int).toNat < 2 - (0 : Int).toNat
    omega
  · simp only [he, idsW_arr, show ((1 : Int) < 2) by omega, decide_true, coreS, Value.cells, Value.oneCell', Nat.reduceAdd, Nat.reduceSub, Nat.reduceMul, Nat.reduceLeDiff, Int.reduceEq, Nat.reduceEqDiff, M4Fs41]
    refine index_arrT (j := 1) Tryz.underlying88 agg87 inf87 sz87 rfl rfl (by omega) ?_
    simp only [List.drop, List.take, stK_some, splice, coreS, stK_some, splice, Value.cells, Value.oneCell', Nat.reduceAdd, Nat.reduceSub, Nat.reduceMul, Nat.reduceLeDiff, Int.reduceEq, Nat.reduceEqDiff, M4Fs41]
    have hgl := lt_of_get hg3
    have hgn : ¬ (g = h3.size) := by omega
    refine WP_draw (by kernel_rfl) sta_eq [(0, 0), (1, 0), (2, 0), (3, 0), (4, 0), (5, 0), (6, 1)] (by kernel_rfl) rfl (by kernel_rfl) ?_
    simp only [hg3, hgn, if_false, hvK_eq, coreS, Value.cells, Value.oneCell', Nat.reduceAdd, Nat.reduceSub, Nat.reduceMul, Nat.reduceLeDiff, Int.reduceEq, Nat.reduceEqDiff, drawS, M4Fs41]
    refine map_putT Tryz.underlying79 keysS (M3.ext ((Ext.refl h3).push _)) (a := (1, moN ws i, d)) (v := .int .i64 i) rfl rfl rfl fun h4 M4 u4 => ?_
    simp only [hvK_eq, coreS, Value.cells, Value.oneCell', Nat.reduceAdd, Nat.reduceSub, Nat.reduceMul, Nat.reduceLeDiff, Int.reduceEq, Nat.reduceEqDiff, drawS, M4Fs41]
    refine ⟨by rw [inK_i64]; omega, roundK_mk (by kernel_rfl) ⟨(ch.push _).upd u4, u4.get (push_old hg3) hgb, .inr (.inr ⟨rfl, _, _, M4⟩)⟩ ?_⟩
    show 2 - (1 + 1 : Int).toNat < 2 - (1 : Int).toNat
    omega
  · simp only [he, show ¬ ((2 : Int) < 2) by omega, decide_false, coreS, Value.cells, Value.oneCell', Nat.reduceAdd, Nat.reduceSub, Nat.reduceMul, Nat.reduceLeDiff, Int.reduceEq, Nat.reduceEqDiff, M4Fs41]
    exact ⟨ch, _, _, M3, H.add i d _ _ _⟩
end Go.Proofs.YtmgkeeefbfefgaaGreat
end
section
namespace Go.Proofs.YtmgkeeefbfefgaaGreat
open Go Go.Proofs Go.Eng Go.Run Tab
set_option maxRecDepth 100000
set_option linter.unusedSimpArgs false
set_option linter.unusedVariables false
set_option linter.defProp false
set_option maxHeartbeats 1000000
set_option linter.defProp false
def M5Fs39 := (And.intro (And.intro (And.intro (And.intro @agg22 @agg3) (And.intro @agg57 (And.intro @agg72 @by72))) (And.intro (And.intro @fo24_2 (And.intro @fo72_0 @fo72_1)) (And.intro @fo81_0 (And.intro @inf22 @inf3)))) (And.intro (And.intro (And.intro @inf57 @inf72) (And.intro @sz22 (And.intro @sz3 @sz57))) (And.intro (And.intro @sz72 (And.intro @zero57 @zero72)) (And.intro @Tryz.underlying22 (And.intro @Tryz.underlying25 @Tryz.underlying57)))))
def ldL (f : Nat → Nat) (S i : Nat) : List Int := (List.range S).map fun x => (MB.load f i x : Int)
def ldv (f : Nat → Nat) (S i : Nat) : List Value := Eng.ints (ldL f S i)
theorem ldL_length {f : Nat → Nat} {S i : Nat} : (ldL f S i).length = S := by simp [ldL]
theorem ldv_length {f : Nat → Nat} {S i : Nat} : (ldv f S i).length = S := by simp [ldv, Eng.ints, ldL]
theorem ldv_get {f : Nat → Nat} {S i x : Nat} (hx : x < S) : (ldv f S i)[x]? = some (.int .i64 (MB.load f i x : Nat)) := by
  simp [ldv, Eng.ints, ldL, hx]
theorem ldL_get {f : Nat → Nat} {S i x : Nat} (hx : x < S) : (ldL f S i).getD x 0 = (MB.load f i x : Nat) := by
  simp [ldL, hx, List.getD]
theorem load_succ (f : Nat → Nat) (i x : Nat) : MB.load f (i + 1) x = MB.load f i x + if f i = x then 1 else 0 := by
  unfold MB.load
  rw [MB.cnt_succ]
  simp
theorem ldv_set {f : Nat → Nat} {S i : Nat} (hf : f i < S) : splice (ldv f S i) (f i) [.int .i64 ((MB.load f i (f i) : Nat) + 1 : Int)] = ldv f S (i + 1) := by
  rw [splice_one _ _ _ (by rw [ldv_length]; exact hf)]
  refine List.ext_getElem? fun x => ?_
  rw [List.getElem?_set]
  by_cases hx : x < S
  · rw [ldv_get hx, ldv_get hx, load_succ]
    by_cases e : f i = x
    · subst e; simp [ldv_length, hf]
    · simp [e]
  · have h1 : (ldv f S i)[x]? = none := List.getElem?_eq_none (by rw [ldv_length]; omega)
    have h2 : (ldv f S (i + 1))[x]? = none := List.getElem?_eq_none (by rw [ldv_length]; omega)
    rw [h1, h2, if_neg (by omega)]
theorem ldv_zero {f : Nat → Nat} {S : Nat} : ldv f S 0 = List.replicate S (.int .i64 0) := by
  refine List.ext_getElem? fun x => ?_
  by_cases hx : x < S
  · rw [ldv_get hx]; simp [hx, MB.load, MB.cnt_zero]
  · have h1 : (ldv f S 0)[x]? = none := List.getElem?_eq_none (by rw [ldv_length]; omega)
    rw [h1]; simp; omega
theorem ldv_one {f : Nat → Nat} {S i : Nat} : (ldv f S i).all Go.Eng.one = true := by
  rw [List.all_eq_true]
  intro v hv
  simp only [ldv, Eng.ints, List.mem_map] at hv
  obtain ⟨x, _, rfl⟩ := hv
  rfl
theorem load_bound (f : Nat → Nat) (i x : Nat) : MB.load f i x ≤ i := MB.cnt_le _ _
theorem loads50 (g b S M : Nat) (a : Option Addr) (n c : Nat) (ws : List Wn) (h : Eng.Heap) (hg : DeskB h g b S M a n c) (hr : Row h a (wsV ws)) (hn : n = ws.length) (V : Vb S M ws) :
    CallsH Tryz.prog 39 #[.pointer (some ⟨g, 0, none⟩)] h (fun v h' => v = .tuple #[.agg (ldv (shN ws) 6 n).toArray, .agg (ldv (moN ws) 6 n).toArray] ∧ Ext h h') := by
  unfold DeskB at hg
  have hgl := lt_of_get hg
  (refine CallsH_of_exec Tryz.func39 rfl bod39 ?_; simp only [Tryz.ntmps39, Tryz.results39, coreS, stK_some, splice, Value.cells, Value.oneCell', Nat.reduceAdd, Nat.reduceSub, Nat.reduceMul, Nat.reduceLeDiff, Int.reduceEq, Nat.reduceEqDiff, M5Fs39])
  have z6 : (((6 : Nat) : Int) = ((0 : Nat) : Int)) = False := by simp
  have f6 : (((6 : Nat) : Int) - ((0 : Nat) : Int)).toNat = 6 := by decide
  have nine : ∀ {x : Nat}, ¬ (h.size + x + 1 = h.size + x) := by intro x; omega
  obtain ⟨Z, hZ⟩ : ∃ Z : Obj, Z = .cells #[.int .i64 0, .int .i64 0, .int .i64 0, .int .i64 0, .int .i64 0, .int .i64 0] 57 := ⟨_, rfl⟩
  simp only [z6, f6, if_false, ← hZ]
  refine ⟨by omega, by omega, by omega, by omega, ?_⟩
  obtain ⟨h0, hh0⟩ : ∃ h0, h0 = (((h.push Z).push Z).push Z).push Z := ⟨_, rfl⟩
  have s0 : h0.size = h.size + 4 := by rw [hh0]; simp
  have x0 : Ext h h0 := by rw [hh0]; exact ((((Ext.refl h).push _).push _).push _).push _
  have q0 : h0[h.size]? = some Z := by rw [hh0]; exact push_old (push_old (push_old push_new))
  have q1 : h0[h.size + 1]? = some Z := by rw [hh0]; exact push_old (push_old pn1)
  have q2 : h0[h.size + 1 + 1]? = some Z := by rw [hh0, Array.getElem?_push, if_neg (by simp), Array.getElem?_push, if_pos (by simp)]
  have q3 : h0[h.size + 1 + 1 + 1]? = some Z := by rw [hh0, Array.getElem?_push, if_pos (by simp)]
  rw [← hh0]
  clear hh0
  subst hZ
  have zz : ∀ f, splice (List.replicate 6 (.int .i64 0)) 0 (List.replicate 6 (.int .i64 0)) = ldv f 6 0 := fun f => by rw [ldv_zero]; rfl
  refine clear_intsT (g := h.size + 1 + 1) (off := 0) (n := 6) (c := 6) (z := 0) (ct := 57) (cur := List.replicate 6 (.int .i64 0)) Tryz.underlying25 zero3 (by rfl) q2 (by simp) fun h1 g1 u1 => ?_
  rw [zz (shN ws)] at g1
  simp only [z6, f6, if_false, coreS, Value.cells, Value.oneCell', Nat.reduceAdd, Nat.reduceSub, Nat.reduceMul, Nat.reduceLeDiff, Int.reduceEq, Nat.reduceEqDiff, M5Fs39]
  refine ⟨by omega, by omega, by omega, by omega, ?_⟩
  refine clear_intsT (g := h.size + 1 + 1 + 1) (off := 0) (n := 6) (c := 6) (z := 0) (ct := 57) (cur := List.replicate 6 (.int .i64 0)) Tryz.underlying25 zero3 (by rfl) (u1.get q3 (by omega)) (by simp) fun h2 g2 u2 => ?_
  rw [zz (moN ws)] at g2
  have e1 := u2.get g1 (by omega)
  have p0 := u2.get (u1.get q0 (by omega)) (by omega)
  have p1 := u2.get (u1.get q1 (by omega)) (by omega)
  have x2 : Ext h h2 := u2.ext (u1.ext x0 (by omega)) (by omega)
  have hs2 : h2.size = h.size + 4 := by rw [u2.size, u1.size, s0]
  clear u1 u2 g1 q0 q1 q2 q3 x0
  have hg2 := x2.get hg
  simp only [hg2, coreS, Value.cells, Value.oneCell', Nat.reduceAdd, Nat.reduceSub, Nat.reduceMul, Nat.reduceLeDiff, Int.reduceEq, Nat.reduceEqDiff, M5Fs39]
  refine WP_loopI [7, 16, 17, 18, 19, 20, 21, 22, 23, 24, 25, 26, 27, 28, 29, 30, 31, 32] (fun e h' => Ext h h' ∧ ∃ i : Nat, i ≤ n ∧ e 16 = .int .i64 i ∧ h'[h.size]? = some (.cells #[.int .i64 0, .int .i64 0, .int .i64 0, .int .i64 0, .int .i64 0, .int .i64 0] 57) ∧ h'[h.size + 1]? = some (.cells #[.int .i64 0, .int .i64 0, .int .i64 0, .int .i64 0, .int .i64 0, .int .i64 0] 57) ∧ h'[h.size + 1 + 1]? = some (.cells (ldv (shN ws) 6 i).toArray 57) ∧ h'[h.size + 1 + 1 + 1]? = some (.cells (ldv (moN ws) 6 i).toArray 57)) (fun e _ => match e 16 with | .int _ q => n - q.toNat | _ => 0) ⟨x2, 0, by omega, rfl, p0, p1, e1, g2⟩ ?_
  rintro e h' ⟨x, i, hi, he, r0, r1, r2, r3⟩
  by_cases hin : i < ws.length
  · have hlt : (i : Int) < (n : Int) := by omega
    have hc := rowW (hr.ext x) hin
    have hsm := rowW_some hr hin
    have hs := V.s hin
    have hm := V.m hin
    have hs6 := V.s2
    have hm6 := V.m2
    rw [hs.1, hm.1] at hc
    have hl := lt_of_get r3
    have d1 : ¬ (h.size + 1 + 1 = h'.size) := by omega
    have d2 : ¬ (h.size + 1 + 1 + 1 = h'.size) := by omega
    have k1 := ldv_get (f := shN ws) (S := 6) (i := i) (x := shN ws i) (by omega)
    have k2 := ldv_get (f := moN ws) (S := 6) (i := i) (x := moN ws i) (by omega)
    simp only [he, hlt, hc, decide_true, Int.toNat_natCast, coreS, Value.cells, Value.oneCell', Nat.reduceAdd, Nat.reduceSub, Nat.reduceMul, Nat.reduceLeDiff, Int.reduceEq, Nat.reduceEqDiff, M5Fs39]
    refine ⟨by omega, hsm, ?_⟩
    refine stK_abs (c := [.int .i64 0, .int .i64 0]) push_new (by simp) fun h3 g3 u3 => ?_
    simp only [splice, List.take, List.drop, List.nil_append, List.append_nil, List.length_cons, List.length_nil, Nat.zero_add] at g3
    have w0 := u3.get (push_old r0) (by omega)
    have w1 := u3.get (push_old r1) (by omega)
    have w2 := u3.get (push_old r2) (by omega)
    have w3 := u3.get (push_old r3) (by omega)
    have y3 : Ext h h3 := u3.ext (x.push _) x.size
    simp only [g3, w2, k1, Int.toNat_natCast, coreS, Value.cells, Value.oneCell', Nat.reduceAdd, Nat.reduceSub, Nat.reduceMul, Nat.reduceLeDiff, Int.reduceEq, Nat.reduceEqDiff, M5Fs39]
    have lb1 := load_bound (shN ws) i (shN ws i)
    have lb2 := load_bound (moN ws) i (moN ws i)
    have V3 := V.n
    refine ⟨⟨by omega, by omega⟩, by rw [inK_i64]; omega, ⟨by omega, by omega⟩, ?_⟩
    refine stK_abs w2 (by simp [ldv_length]; omega) fun h4 g4 u4 => ?_
    rw [ldv_set (by omega)] at g4
    have z0 := u4.get w0 (by omega)
    have z1 := u4.get w1 (by omega)
    have z3 := u4.get w3 (by omega)
    have z4 := u4.get g3 (by omega)
    have y4 : Ext h h4 := u4.ext y3 (by omega)
    simp only [z3, z4, k2, Int.toNat_natCast, coreS, Value.cells, Value.oneCell', Nat.reduceAdd, Nat.reduceSub, Nat.reduceMul, Nat.reduceLeDiff, Int.reduceEq, Nat.reduceEqDiff, M5Fs39]
    refine ⟨⟨by omega, by omega⟩, by rw [inK_i64]; omega, ⟨by omega, by omega⟩, ?_⟩
    refine stK_abs z3 (by simp [ldv_length]; omega) fun h5 g5 u5 => ?_
    rw [ldv_set (by omega)] at g5
    simp only [coreS, Value.cells, Value.oneCell', Nat.reduceAdd, Nat.reduceSub, Nat.reduceMul, Nat.reduceLeDiff, Int.reduceEq, Nat.reduceEqDiff, M5Fs39]
    refine ⟨by rw [inK_i64]; omega, roundK_mk (by kernel_rfl) ⟨u5.ext y4 (by omega), i + 1, by omega, rfl, u5.get z0 (by omega), u5.get z1 (by omega), u5.get g4 (by omega), g5⟩ ?_⟩
    show n - ((i : Int) + 1).toNat < n - (i : Int).toNat
    omega
  · obtain rfl : i = n := by omega
    have hlt : ¬ ((i : Int) < (i : Int)) := by omega
    have V3 := V.n
    simp only [he, hlt, decide_false, coreS, Value.cells, Value.oneCell', Nat.reduceAdd, Nat.reduceSub, Nat.reduceMul, Nat.reduceLeDiff, Int.reduceEq, Nat.reduceEqDiff, M5Fs39]
    refine WP_tree (by kernel_rfl) sta_eq (.quiet 0 (.fork2 1 2 true false (.one 2 (.one 3 (.fin))) (.quiet 1 (.one 3 (.fin))))) (by kernel_rfl) rfl (by kernel_rfl) ?_
    have t1 : List.take 6 (ldv (shN ws) 6 i) = ldv (shN ws) 6 i := List.take_of_length_le (by rw [ldv_length]; exact Nat.le_refl _)
    have t2 : List.take 6 (ldv (moN ws) 6 i) = ldv (moN ws) 6 i := List.take_of_length_le (by rw [ldv_length]; exact Nat.le_refl _)
    have l1 : 0 + 6 ≤ (ldv (shN ws) 6 i).length := by rw [ldv_length]; omega
    have l2 : 0 + 6 ≤ (ldv (moN ws) 6 i).length := by rw [ldv_length]; omega
    have c1 := cesO_cells (c := ldv (shN ws) 6 i) (ct := 57) (fr := (0, 0)) l1
    have c2 := cesO_cells (c := ldv (moN ws) 6 i) (ct := 57) (fr := (0, 0)) l2
    simp only [List.drop_zero, t1, t2] at c1 c2
    have sp : ∀ f : Nat → Nat, splice [.int .i64 0, .int .i64 0, .int .i64 0, .int .i64 0, .int .i64 0, .int .i64 0] 0 (ldv f 6 i) = ldv f 6 i := fun f => by
      simp [splice, ldv_length]
    simp only [r2, c1, coreS, Value.cells, Value.oneCell', Nat.reduceAdd, Nat.reduceSub, Nat.reduceMul, Nat.reduceLeDiff, Int.reduceEq, Nat.reduceEqDiff, drawS, treeS, M5Fs39]
    have hl := lt_of_get r3
    have k1 := cesO_cells (c := ldv (shN ws) 6 i) (ct := 57) (fr := (0, 0)) l1
    have k2 := cesO_cells (c := ldv (moN ws) 6 i) (ct := 57) (fr := (0, 0)) l2
    simp only [List.drop_zero, t1, t2] at k1 k2
    refine execT_fork2E ?_ ?_
    · simp only [r3, c2, coreS, Value.cells, Value.oneCell', Nat.reduceAdd, Nat.reduceSub, Nat.reduceMul, Nat.reduceLeDiff, Int.reduceEq, Nat.reduceEqDiff, drawS, treeS, M5Fs39]
      refine ⟨rfl, ?_⟩
      refine execT_oneE ?_
      simp only [r0, ldv_length, ldv_one, List.size_toArray, List.toList_toArray, coreS, Value.cells, Value.oneCell', Nat.reduceAdd, Nat.reduceSub, Nat.reduceMul, Nat.reduceLeDiff, Int.reduceEq, Nat.reduceEqDiff, drawS, treeS, M5Fs39]
      refine stK_abs r0 (by simp [ldv_length]) fun h4 g4 u4 => ?_
      rw [sp] at g4
      refine execT_oneE ?_
      have r1' := u4.get r1 (by omega)
      simp only [r1', ldv_length, ldv_one, List.size_toArray, List.toList_toArray, coreS, Value.cells, Value.oneCell', Nat.reduceAdd, Nat.reduceSub, Nat.reduceMul, Nat.reduceLeDiff, Int.reduceEq, Nat.reduceEqDiff, drawS, treeS, M5Fs39]
      refine stK_abs r1' (by simp [ldv_length]) fun h5 g5 u5 => ?_
      rw [sp] at g5
      have g4' := u5.get g4 (by omega)
      refine execT_finE ?_
      simp only [g4', g5, k1, k2, coreS, Value.cells, Value.oneCell', Nat.reduceAdd, Nat.reduceSub, Nat.reduceMul, Nat.reduceLeDiff, Int.reduceEq, Nat.reduceEqDiff, M5Fs39]
      exact u5.ext (u4.ext x (by omega)) (by omega)
    · simp only [r0, ldv_length, ldv_one, List.size_toArray, List.toList_toArray, coreS, Value.cells, Value.oneCell', Nat.reduceAdd, Nat.reduceSub, Nat.reduceMul, Nat.reduceLeDiff, Int.reduceEq, Nat.reduceEqDiff, drawS, treeS, M5Fs39]
      refine stK_abs r0 (by simp [ldv_length]) fun h4 g4 u4 => ?_
      rw [sp] at g4
      have r1' := u4.get r1 (by omega)
      have r3' := u4.get r3 (by omega)
      simp only [r3', c2, coreS, Value.cells, Value.oneCell', Nat.reduceAdd, Nat.reduceSub, Nat.reduceMul, Nat.reduceLeDiff, Int.reduceEq, Nat.reduceEqDiff, drawS, treeS, M5Fs39]
      first | refine ⟨fun hh => by cases hh, ?_⟩ | skip
      refine execT_oneE ?_
      simp only [r1', ldv_length, ldv_one, List.size_toArray, List.toList_toArray, coreS, Value.cells, Value.oneCell', Nat.reduceAdd, Nat.reduceSub, Nat.reduceMul, Nat.reduceLeDiff, Int.reduceEq, Nat.reduceEqDiff, drawS, treeS, M5Fs39]
      refine stK_abs r1' (by simp [ldv_length]) fun h5 g5 u5 => ?_
      rw [sp] at g5
      have g4' := u5.get g4 (by omega)
      refine execT_finE ?_
      simp only [g4', g5, k1, k2, coreS, Value.cells, Value.oneCell', Nat.reduceAdd, Nat.reduceSub, Nat.reduceMul, Nat.reduceLeDiff, Int.reduceEq, Nat.reduceEqDiff, M5Fs39]
      exact u5.ext (u4.ext x (by omega)) (by omega)
end Go.Proofs.YtmgkeeefbfefgaaGreat
end
section
set_option linter.unusedVariables false
set_option linter.unusedSimpArgs false
namespace Go.Eng
open Go
theorem WP_cut {l : Option Nat} {P : Program} {c : Code} {n : Env → List Deferred → Heap → Prop} {k : Cont} {e : Env} {d : List Deferred} {h : Heap} (ws : List Nat) (I : (Nat → Value) → Heap → Prop)
    (H : WP l P c (thenK (midK e d ws I) k) e d h) (Hn : ∀ g h', I g h' → n (mkE e ws g) d h') : WP l P c (thenK n k) e d h :=
  WP_mono (thenK_mono (fun e' d' h' hmid => by
    unfold midK at hmid
    obtain ⟨h1, h2, h3⟩ := hmid
    subst h1
    rw [h2]
    exact Hn _ _ h3) (fun _ _ _ _ h => h)) H
section pureR
variable {P : Program} {k : Cont} {d : List Deferred} {h : Heap}
end pureR
end Go.Eng
end
section
namespace Go.Proofs.YtmgkeeefbfefgaaGreat
open Go Go.Proofs Go.Eng Go.Run Tab
set_option maxRecDepth 100000
set_option linter.unusedSimpArgs false
set_option linter.unusedVariables false
set_option linter.defProp false
set_option maxHeartbeats 1000000
set_option linter.defProp false
def M6Fs81 := (And.intro (And.intro (And.intro (And.intro @agg22 @agg3) (And.intro @by3 @by72)) (And.intro (And.intro @fo24_0 @fo24_1) (And.intro @fo24_2 (And.intro @fo72_0 @fo72_1)))) (And.intro (And.intro (And.intro @inf22 @inf3) (And.intro @inf72 @sz22)) (And.intro (And.intro @sz3 @sz72) (And.intro @zero3 (And.intro @Tryz.underlying22 @Tryz.underlying25)))))
def TwoZ (m : Nat) (h' : Eng.Heap) (v w : Value) (S M : Nat) : Prop := ∃ p q, v = .slice (some ⟨p, 0, none⟩) S S ∧ w = .slice (some ⟨q, 0, none⟩) M M ∧ p ≠ q ∧ m ≤ p ∧ m ≤ q ∧ h'[p]? = some (.cells (List.replicate S (.int .i64 0)).toArray 3) ∧ h'[q]? = some (.cells (List.replicate M (.int .i64 0)).toArray 3)
theorem loadsOf51 (S M : Nat) (a : Option Addr) (n c : Nat) (ws : List Wn) (h : Eng.Heap) (hr : Row h a (wsV ws)) (hn : n = ws.length) (V : Vb S M ws) :
    CallsH Tryz.prog 81 #[.agg #[.int .i64 S, .int .i64 M, .slice a n c]] h (fun v h' => (∃ p q, v = .tuple #[.slice (some ⟨p, 0, none⟩) S S, .slice (some ⟨q, 0, none⟩) M M] ∧ p ≠ q ∧ h.size ≤ p ∧ h.size ≤ q ∧ h'[p]? = some (.cells (ldv (shN ws) S n).toArray 3) ∧ h'[q]? = some (.cells (ldv (moN ws) M n).toArray 3)) ∧ Ext h h') := by
  have hb0 := push_new (h := h) (o := .cells #[.int .i64 S, .int .i64 M, .slice a n c] 24)
  have x0 : Ext h (h.push (.cells #[.int .i64 S, .int .i64 M, .slice a n c] 24)) := (Ext.refl h).push _
  have V1 := V.s1
  have V2 := V.s2
  have V3 := V.m1
  have V4 := V.m2
  (refine CallsH_of_exec Tryz.func81 rfl bod81 ?_; simp only [Tryz.ntmps81, Tryz.results81, coreS, stK_some, splice, Value.cells, Value.oneCell', Nat.reduceAdd, Nat.reduceSub, Nat.reduceMul, Nat.reduceLeDiff, Int.reduceEq, Nat.reduceEqDiff, M6Fs81])
  generalize h.push (.cells #[.int .i64 S, .int .i64 M, .slice a n c] 24) = h0 at hb0 x0 ⊢
  refine WP_cut [4, 5, 7, 8, 9, 10, 11, 12] (fun g h' => TwoZ h0.size h' (g 4) (g 5) S M ∧ Ext h0 h') ?_ ?_
  · refine WP_tree (by kernel_rfl) sta_ext (.quiet 0 (.quiet 1 (.quiet 3 (.quiet 4 (.fork2 2 5 true true (.quiet 6 (.keep 5 (.quiet 7 (.fin)))) (.keep 2 (.quiet 6 (.quiet 7 (.fin))))))))) (by kernel_rfl) rfl (by kernel_rfl) ?_
    simp only [hb0, coreS, Value.cells, Value.oneCell', Nat.reduceAdd, Nat.reduceSub, Nat.reduceMul, Nat.reduceLeDiff, Int.reduceEq, Nat.reduceEqDiff, drawS, treeS, M6Fs81]
    refine execT_fork2 fun h1 x1 => ⟨?_, ?_⟩
    · simp only [List.flatten_replicate_singleton, coreS, Value.cells, Value.oneCell', Nat.reduceAdd, Nat.reduceSub, Nat.reduceMul, Nat.reduceLeDiff, Int.reduceEq, Nat.reduceEqDiff, drawS, treeS, M6Fs81]
      repeat (first | refine And.intro (by omega) ?_ | refine And.intro ((Ext.refl _).push _) ?_ | refine And.intro (fun _ => (Ext.refl _).push _) ?_)
      refine execT_keep fun h2 x2 => ?_
      simp only [List.flatten_replicate_singleton, coreS, Value.cells, Value.oneCell', Nat.reduceAdd, Nat.reduceSub, Nat.reduceMul, Nat.reduceLeDiff, Int.reduceEq, Nat.reduceEqDiff, drawS, treeS, M6Fs81]
      repeat (first | refine And.intro (by omega) ?_ | refine And.intro ((Ext.refl _).push _) ?_ | refine And.intro (fun _ => (Ext.refl _).push _) ?_)
      refine execT_fin fun h3 x3 => ?_
      have s2 := x2.size
      rw [push_size] at s2
      have s1 := x1.size
      simp only [thenK_normal]
      exact midK_mk (by kernel_rfl) ⟨⟨h1.size, h2.size, rfl, rfl, by omega, s1, by omega, x3.get (push_old (x2.get push_new)), x3.get push_new⟩, ((x1.push _).trans x2).trans (x3.of_push)⟩
    · simp only [List.flatten_replicate_singleton, coreS, Value.cells, Value.oneCell', Nat.reduceAdd, Nat.reduceSub, Nat.reduceMul, Nat.reduceLeDiff, Int.reduceEq, Nat.reduceEqDiff, drawS, treeS, M6Fs81]
      repeat (first | refine And.intro (by omega) ?_ | refine And.intro ((Ext.refl _).push _) ?_ | refine And.intro (fun _ => (Ext.refl _).push _) ?_)
      refine execT_keep fun h2 x2 => ?_
      simp only [List.flatten_replicate_singleton, coreS, Value.cells, Value.oneCell', Nat.reduceAdd, Nat.reduceSub, Nat.reduceMul, Nat.reduceLeDiff, Int.reduceEq, Nat.reduceEqDiff, drawS, treeS, M6Fs81]
      repeat (first | refine And.intro (by omega) ?_ | refine And.intro ((Ext.refl _).push _) ?_ | refine And.intro (fun _ => (Ext.refl _).push _) ?_)
      refine execT_fin fun h3 x3 => ?_
      have s2 := x2.size
      rw [push_size] at s2
      have s1 := x1.size
      simp only [thenK_normal]
      exact midK_mk (by kernel_rfl) ⟨⟨h2.size, h1.size, rfl, rfl, by omega, by omega, s1, x3.get push_new, x3.get (push_old (x2.get push_new))⟩, ((x1.push _).trans x2).trans (x3.of_push)⟩
  · rintro e0 h1 ⟨⟨p, q, e4, e5, hpq, hp, hq, hzp, hzq⟩, x1⟩
    have hb1 := x1.get hb0
    have y1 := x0.trans x1
    have s01 := x0.size
    have sh0 := lt_of_get hb0
    rw [← ldv_zero (f := shN ws)] at hzp
    rw [← ldv_zero (f := moN ws)] at hzq
    simp only [e4, e5, coreS, Value.cells, Value.oneCell', Nat.reduceAdd, Nat.reduceSub, Nat.reduceMul, Nat.reduceLeDiff, Int.reduceEq, Nat.reduceEqDiff, M6Fs81]
    refine WP_loopI [6, 13, 14, 15, 16, 17, 18, 19, 20, 21, 22, 23, 24, 25, 26, 27, 28, 29, 30, 31, 32, 33, 34, 35, 36, 37, 38, 39, 40, 41] (fun e h' => Ext h0 h' ∧ ∃ i : Nat, i ≤ n ∧ e 6 = .int .i64 i ∧ h'[p]? = some (.cells (ldv (shN ws) S i).toArray 3) ∧ h'[q]? = some (.cells (ldv (moN ws) M i).toArray 3)) (fun e _ => match e 6 with | .int _ q => n - q.toNat | _ => 0) ⟨x1, 0, by omega, rfl, hzp, hzq⟩ ?_
    rintro e h' ⟨x, i, hi, he, r2, r3⟩
    have hb' := x.get hb0
    by_cases hin : i < ws.length
    · have hlt : (i : Int) < (n : Int) := by omega
      have hr' := hr.ext (x0.trans x)
      have fa := faR hr' hin
      have c0 := cellW0 hr' hin
      have c1 := cellW1 hr' hin
      have hsm := rowW_some hr hin
      have hs := V.s hin
      have hm := V.m hin
      rw [hs.1] at c0
      rw [hm.1] at c1
      have k1 := ldv_get (f := shN ws) (S := S) (i := i) (x := shN ws i) hs.2
      have k2 := ldv_get (f := moN ws) (S := M) (i := i) (x := moN ws i) hm.2
      have lb1 := load_bound (shN ws) i (shN ws i)
      have lb2 := load_bound (moN ws) i (moN ws i)
      have V3 := V.n
      simp only [he, hlt, hb', fa, c0, r2, k1, decide_true, Int.toNat_natCast, coreS, Value.cells, Value.oneCell', Nat.reduceAdd, Nat.reduceSub, Nat.reduceMul, Nat.reduceLeDiff, Int.reduceEq, Nat.reduceEqDiff, M6Fs81]
      have hpl := lt_of_get r2
      refine ⟨by omega, hsm, ⟨by omega, by omega⟩, rfl, by rw [inK_i64]; omega, ⟨by omega, by omega⟩, rfl, ?_⟩
      refine stK_abs r2 (by simp [ldv_length]; omega) fun h4 g4 u4 => ?_
      rw [ldv_set (by omega)] at g4
      have z3 := u4.get r3 (by omega)
      have y4 : Ext h0 h4 := u4.ext x (by omega)
      have hr4 := hr.ext (x0.trans y4)
      have c1 := cellW1 hr4 hin
      rw [hm.1] at c1
      simp only [y4.get hb0, fa, c1, z3, k2, Int.toNat_natCast, coreS, Value.cells, Value.oneCell', Nat.reduceAdd, Nat.reduceSub, Nat.reduceMul, Nat.reduceLeDiff, Int.reduceEq, Nat.reduceEqDiff, M6Fs81]
      refine ⟨⟨by omega, by omega⟩, hsm, ⟨by omega, by omega⟩, rfl, by rw [inK_i64]; omega, ⟨by omega, by omega⟩, rfl, ?_⟩
      refine stK_abs z3 (by simp [ldv_length]; omega) fun h5 g5 u5 => ?_
      rw [ldv_set (by omega)] at g5
      simp only [he, coreS, Value.cells, Value.oneCell', Nat.reduceAdd, Nat.reduceSub, Nat.reduceMul, Nat.reduceLeDiff, Int.reduceEq, Nat.reduceEqDiff, M6Fs81]
      refine ⟨by rw [inK_i64]; omega, roundK_mk (by kernel_rfl) ⟨u5.ext y4 (by omega), i + 1, by omega, rfl, u5.get g4 (by omega), g5⟩ ?_⟩
      show n - ((i : Int) + 1).toNat < n - (i : Int).toNat
      omega
    · obtain rfl : i = n := by omega
      have hlt : ¬ ((i : Int) < (i : Int)) := by omega
      simp only [he, hlt, hb', decide_false, coreS, Value.cells, Value.oneCell', Nat.reduceAdd, Nat.reduceSub, Nat.reduceMul, Nat.reduceLeDiff, Int.reduceEq, Nat.reduceEqDiff, M6Fs81]
      exact ⟨⟨p, q, rfl, hpq, by omega, by omega, r2, r3⟩, x0.trans x⟩
structure LoadsP (S M : Int) (ws : List Wn) (h0 : Nat) (h' : Eng.Heap) (v : Value) : Prop where
  ok : ∀ s m : Nat, S = s → M = m → Vb s m ws → ∃ p q, v = .tuple #[.slice (some ⟨p, 0, none⟩) s s, .slice (some ⟨q, 0, none⟩) m m, .int .i64 0] ∧ p ≠ q ∧ h0 ≤ p ∧ h0 ≤ q ∧ h'[p]? = some (.cells (ldv (shN ws) s ws.length).toArray 3) ∧ h'[q]? = some (.cells (ldv (moN ws) m ws.length).toArray 3)
  no : chk S M ws ≠ 0 → v = .tuple #[.slice none 0 0, .slice none 0 0, .int .i64 (chk S M ws)]
end Go.Proofs.YtmgkeeefbfefgaaGreat
end
section
namespace Go.Proofs.YtmgkeeefbfefgaaGreat
set_option linter.unusedSimpArgs false
set_option linter.unusedVariables false
set_option linter.defProp false
set_option linter.unusedSectionVars false
namespace MB
variable {sh mo : Nat → Nat} {n D : Nat}
def fit (sh mo : Nat → Nat) (bg : List Nat) (d : Nat) : Bool := (List.range bg.length).all fun i => !(bg.getD i 0 == d && clash sh mo i bg.length)
def go (sh mo : Nat → Nat) (D : Nat) : Nat → List Nat → Option (List Nat)
  | 0, bg => some bg
  | k + 1, bg => (List.range D).findSome? fun d => if fit sh mo bg d then go sh mo D k (bg ++ [d]) else none
def rightL (sh mo : Nat → Nat) (l : List Nat) : Prop := right sh mo (fun i => l.getD i 0) l.length
theorem fit_iff {bg : List Nat} {d : Nat} : fit sh mo bg d = true ↔ ∀ i, i < bg.length → bg.getD i 0 = d → sh i ≠ sh bg.length ∧ mo i ≠ mo bg.length := by
  unfold fit
  rw [List.all_eq_true]
  constructor
  · intro h i hi he
    have := h i (List.mem_range.2 hi)
    rw [he] at this
    simp only [beq_self_eq_true, Bool.true_and, Bool.not_eq_true'] at this
    exact clash_no.1 this
  · intro h i hi
    by_cases he : bg.getD i 0 = d
    · rw [he, clash_no.2 (h i (List.mem_range.1 hi) he)]; simp
    · rw [(beq_eq_false_iff_ne).2 he]; rfl
theorem getD_snoc (bg : List Nat) (d i : Nat) : (bg ++ [d]).getD i 0 = if i = bg.length then d else bg.getD i 0 := by
  by_cases h : i < bg.length
  · rw [if_neg (by omega), List.getD_eq_getElem?_getD, List.getD_eq_getElem?_getD, List.getElem?_append_left h]
  · by_cases e : i = bg.length
    · subst e; rw [if_pos rfl, List.getD_eq_getElem?_getD, List.getElem?_append_right (Nat.le_refl _)]; simp
    · rw [if_neg e, List.getD_eq_getElem?_getD, List.getD_eq_getElem?_getD, List.getElem?_eq_none (by simp; omega), List.getElem?_eq_none (by omega)]
theorem right_snoc {bg : List Nat} {d : Nat} (R : rightL sh mo bg) (h : fit sh mo bg d = true) : rightL sh mo (bg ++ [d]) := by
  have h := fit_iff.1 h
  unfold rightL
  rw [List.length_append]
  have := right_add (sh := sh) (mo := mo) (c := fun i => bg.getD i 0) (n := bg.length) (a := d) R (fun i hi hs he => (h i hi he).1 hs) (fun i hi hm he => (h i hi he).2 hm)
  intro i k hi hk hik he
  refine this i k (by simpa using hi) (by simpa using hk) hik ?_
  simp only [getD_snoc] at he
  exact he
theorem go_sound : ∀ (k : Nat) (bg l : List Nat), rightL sh mo bg → (∀ x, x ∈ bg → x < D) → go sh mo D k bg = some l → l.length = bg.length + k ∧ rightL sh mo l ∧ ∀ x, x ∈ l → x < D
  | 0, bg, l, R, h, e => by
    rw [go] at e
    cases e
    exact ⟨rfl, R, h⟩
  | k + 1, bg, l, R, h, e => by
    rw [go] at e
    obtain ⟨d, hd, he⟩ := List.exists_of_findSome?_eq_some e
    by_cases hf : fit sh mo bg d = true
    · rw [if_pos hf] at he
      obtain ⟨h1, h2, h3⟩ := go_sound k (bg ++ [d]) l (right_snoc R hf) (fun x hx => by
        rcases List.mem_append.1 hx with hx | hx
        · exact h x hx
        · rw [List.mem_singleton.1 hx]; exact List.mem_range.1 hd) he
      rw [List.length_append] at h1
      simp only [List.length_cons, List.length_nil] at h1
      exact ⟨by omega, h2, h3⟩
    · rw [if_neg hf] at he; cases he
theorem go_some {c : Nat → Nat} : ∀ (k : Nat) (bg : List Nat), right sh mo c (bg.length + k) → (∀ i, i < bg.length + k → c i < D) → (∀ i, i < bg.length → bg.getD i 0 = c i) → (go sh mo D k bg).isSome = true
  | 0, bg, _, _, _ => rfl
  | k + 1, bg, R, h, hb => by
    rw [go, List.findSome?_isSome_iff]
    refine ⟨c bg.length, List.mem_range.2 (h _ (by omega)), ?_⟩
    have hf : fit sh mo bg (c bg.length) = true := fit_iff.2 fun i hi he => R i bg.length (by omega) (by omega) (by omega) ((hb i hi).symm.trans he)
    rw [if_pos hf]
    refine go_some (c := c) k (bg ++ [c bg.length]) ?_ ?_ ?_
    · rw [List.length_append]; exact fun i j hi hj => R i j (by simp at hi; omega) (by simp at hj; omega)
    · rw [List.length_append]; exact fun i hi => h i (by simp at hi; omega)
    · intro i hi
      rw [getD_snoc]
      rw [List.length_append] at hi
      simp only [List.length_cons, List.length_nil] at hi
      split
      · rename_i e; rw [e]
      · exact hb i (by omega)
def dif (l : List Nat) : Nat := cnt (fun i => !(l.take i).contains (l.getD i 0)) l.length
theorem take_snoc {l : List Nat} {k : Nat} (h : k < l.length) : l.take (k + 1) = l.take k ++ [l.getD k 0] := by
  rw [List.take_add_one, List.getD_eq_getElem?_getD, List.getElem?_eq_getElem h]
  rfl
theorem dif_take (l : List Nat) : ∀ k, k ≤ l.length → ∃ u : List Nat, u.Nodup ∧ (∀ x, x ∈ u ↔ x ∈ l.take k) ∧ u.length = cnt (fun i => !(l.take i).contains (l.getD i 0)) k
  | 0, _ => ⟨[], List.nodup_nil, fun x => by simp, rfl⟩
  | k + 1, h => by
    obtain ⟨u, h1, h2, h3⟩ := dif_take l k (by omega)
    rw [cnt_succ, take_snoc (by omega)]
    by_cases hm : l.getD k 0 ∈ l.take k
    · refine ⟨u, h1, fun x => ?_, ?_⟩
      · rw [List.mem_append, List.mem_singleton, h2]
        exact ⟨.inl, fun h => h.elim id fun e => e ▸ hm⟩
      · rw [if_neg (by simpa using hm), h3]; rfl
    · refine ⟨l.getD k 0 :: u, List.nodup_cons.2 ⟨fun h => hm ((h2 _).1 h), h1⟩, fun x => ?_, ?_⟩
      · rw [List.mem_append, List.mem_singleton, List.mem_cons, h2]
        exact ⟨fun h => h.elim .inr .inl, fun h => h.elim .inr .inl⟩
      · rw [if_pos (by simpa using hm), List.length_cons, h3]
theorem dif_ex (l : List Nat) : ∃ u : List Nat, u.Nodup ∧ (∀ x, x ∈ u ↔ x ∈ l) ∧ u.length = dif l := by
  obtain ⟨u, h1, h2, h3⟩ := dif_take l l.length (Nat.le_refl _)
  rw [List.take_of_length_le (Nat.le_refl _)] at h2
  exact ⟨u, h1, h2, h3⟩
theorem dif_le {l : List Nat} (h : ∀ x, x ∈ l → x < D) : dif l ≤ D := by
  obtain ⟨u, h1, h2, h3⟩ := dif_ex l
  have := nodup_le (m := List.range D) h1 fun x hx => List.mem_range.2 (h x ((h2 x).1 hx))
  rw [List.length_range] at this
  omega
theorem mem_getD {l : List Nat} {i : Nat} (h : i < l.length) : l.getD i 0 ∈ l := by
  rw [List.getD_eq_getElem?_getD, List.getElem?_eq_getElem h]
  exact List.getElem_mem h
theorem load_dif {l : List Nat} (R : rightL sh mo l) (x : Nat) : load sh l.length x ≤ dif l ∧ load mo l.length x ≤ dif l := by
  obtain ⟨u, h1, h2, h3⟩ := dif_ex l
  have key : ∀ f : Nat → Nat, (∀ i k, i < l.length → k < l.length → i ≠ k → l.getD i 0 = l.getD k 0 → f i ≠ f k) → load f l.length x ≤ dif l := fun f hf => by
    have h4 := nodup_le (l := ((List.range l.length).filter (fun i => f i == x)).map fun i => l.getD i 0) (m := u) (nodup_map (List.Pairwise.filter _ List.nodup_range) fun i k hi hk hik he => by
      obtain ⟨hi1, hi2⟩ := List.mem_filter.1 hi
      obtain ⟨hk1, hk2⟩ := List.mem_filter.1 hk
      simp only [beq_iff_eq] at hi2 hk2
      exact hf i k (List.mem_range.1 hi1) (List.mem_range.1 hk1) hik he (hi2.trans hk2.symm)) (fun a ha => by
      obtain ⟨i, hi, rfl⟩ := List.mem_map.1 ha
      exact (h2 _).2 (mem_getD (List.mem_range.1 (List.mem_filter.1 hi).1)))
    rw [List.length_map, h3] at h4
    exact h4
  exact ⟨key sh fun i k hi hk hik he => (R i k hi hk hik he).1, key mo fun i k hi hk hik he => (R i k hi hk hik he).2⟩
structure Great (sh mo : Nat → Nat) (n D : Nat) : Prop where
  sle : ∀ s, load sh n s ≤ D
  mle : ∀ m, load mo n m ≤ D
  is : D = 0 ∨ (∃ s, load sh n s = D) ∨ ∃ m, load mo n m = D
theorem days_first (G : Great sh mo n D) : ∃ l, go sh mo D n [] = some l ∧ l.length = n ∧ rightL sh mo l ∧ (∀ x, x ∈ l → x < D) ∧ dif l = D := by
  obtain ⟨c, h1, h2⟩ := colour (sh := sh) (mo := mo) n G.sle G.mle
  have h3 := go_some (D := D) (c := c) n [] (by simpa using h1) (by simpa using h2) (fun i hi => absurd hi (by simp))
  obtain ⟨l, hl⟩ := Option.isSome_iff_exists.1 h3
  obtain ⟨h4, h5, h6⟩ := go_sound n [] l (fun i k hi => absurd hi (by simp)) (fun x hx => absurd hx List.not_mem_nil) hl
  have h4 : l.length = n := by simpa using h4
  refine ⟨l, hl, h4, h5, h6, Nat.le_antisymm (dif_le h6) ?_⟩
  rcases G.is with h | ⟨s, h⟩ | ⟨m, h⟩
  · omega
  · have := (load_dif h5 s).1; rw [h4, h] at this; exact this
  · have := (load_dif h5 m).2; rw [h4, h] at this; exact this
end MB
end Go.Proofs.YtmgkeeefbfefgaaGreat
end
section
namespace Go.Proofs.YtmgkeeefbfefgaaGreat
set_option linter.unusedSimpArgs false
set_option linter.unusedVariables false
set_option linter.defProp false
set_option linter.unusedSectionVars false
namespace MB
variable {sh mo c : Nat → Nat} {n D : Nat}
def two (f g : Nat → Nat) (a s : Nat) : Nat → Nat := fun i => if i < a then f i else g (i - a) + s
end MB
end Go.Proofs.YtmgkeeefbfefgaaGreat
end
section
namespace Go.Proofs
open Go.Shelf
def Tryz.lays189_ren : Go.Shelf.Ren := ⟨fun | 189 => 55 | 125 => 80 | 257 => 79 | 128 => 96 | 129 => 97 | 294 => 87 | 295 => 88 | 296 => 89 | 297 => 90 | 298 => 91 | 299 => 92 | 216 => 93 | 300 => 94 | 301 => 95 | 328 => 100 | 329 => 101 | 330 => 102 | 331 => 103 | 332 => 104 | 215 => 105 | 343 => 106 | n => n, fun | 28 => 25 | 3 => 3 | 46 => 99 | 0 => 0 | 51 => 113 | 53 => 115 | 4 => 4 | 183 => 108 | 182 => 107 | 131 => 92 | 5 => 5 | 9 => 9 | 218 => 117 | 222 => 121 | 228 => 123 | 229 => 124 | n => n, fun | n => n⟩
theorem Tryz.lays189 : Go.Proofs.Lays.n189 Tryz.prog Tryz.lays189_ren := {
  mixed := by kernel_rfl
  f125 := Tryz.func80.trans (congrArg some (by kernel_rfl))
  f128 := Tryz.func96.trans (congrArg some (by kernel_rfl))
  f129 := Tryz.func97.trans (congrArg some (by kernel_rfl))
  f189 := Tryz.func55.trans (congrArg some (by kernel_rfl))
  f215 := Tryz.func105.trans (congrArg some (by kernel_rfl))
  f216 := Tryz.func93.trans (congrArg some (by kernel_rfl))
  f257 := Tryz.func79.trans (congrArg some (by kernel_rfl))
  f294 := Tryz.func87.trans (congrArg some (by kernel_rfl))
  f295 := Tryz.func88.trans (congrArg some (by kernel_rfl))
  f296 := Tryz.func89.trans (congrArg some (by kernel_rfl))
  f297 := Tryz.func90.trans (congrArg some (by kernel_rfl))
  f298 := Tryz.func91.trans (congrArg some (by kernel_rfl))
  f299 := Tryz.func92.trans (congrArg some (by kernel_rfl))
  f300 := Tryz.func94.trans (congrArg some (by kernel_rfl))
  f301 := Tryz.func95.trans (congrArg some (by kernel_rfl))
  f328 := Tryz.func100.trans (congrArg some (by kernel_rfl))
  f329 := Tryz.func101.trans (congrArg some (by kernel_rfl))
  f330 := Tryz.func102.trans (congrArg some (by kernel_rfl))
  f331 := Tryz.func103.trans (congrArg some (by kernel_rfl))
  f332 := Tryz.func104.trans (congrArg some (by kernel_rfl))
  f343 := Tryz.func106.trans (congrArg some (by kernel_rfl))
  t0 := Tryz.underlying0
  a0 := Tryz.isAgg0
  z0 := Tryz.sizeOf0
  v0 := Tryz.zeroValue0
  t3 := Tryz.underlying3
  a3 := Tryz.isAgg3
  z3 := Tryz.sizeOf3
  v3 := Tryz.zeroValue3
  t4 := Tryz.underlying4
  a4 := Tryz.isAgg4
  z4 := Tryz.sizeOf4
  v4 := Tryz.zeroValue4
  t5 := Tryz.underlying5
  a5 := Tryz.isAgg5
  z5 := Tryz.sizeOf5
  v5 := Tryz.zeroValue5
  t9 := Tryz.underlying9
  a9 := Tryz.isAgg9
  z9 := Tryz.sizeOf9
  v9 := Tryz.zeroValue9
  t28 := Tryz.underlying25
  a28 := Tryz.isAgg25
  z28 := Tryz.sizeOf25
  v28 := Tryz.zeroValue25
  t46 := Tryz.underlying99
  a46 := Tryz.isAgg99
  z46 := Tryz.sizeOf99
  v46 := Tryz.zeroValue99
  t51 := Tryz.underlying113
  a51 := Tryz.isAgg113
  z51 := Tryz.sizeOf113
  v51 := Tryz.zeroValue113
  t53 := Tryz.underlying115
  a53 := Tryz.isAgg115
  z53 := Tryz.sizeOf115
  v53 := Tryz.zeroValue115
  t131 := Tryz.underlying92
  a131 := Tryz.isAgg92
  z131 := Tryz.sizeOf92
  v131 := Tryz.zeroValue92
  t182 := Tryz.underlying107
  a182 := Tryz.isAgg107
  z182 := Tryz.sizeOf107
  v182 := Tryz.zeroValue107
  t183 := Tryz.underlying108
  a183 := Tryz.isAgg108
  z183 := Tryz.sizeOf108
  v183 := Tryz.zeroValue108
  t218 := Tryz.underlying117
  a218 := Tryz.isAgg117
  z218 := Tryz.sizeOf117
  v218 := Tryz.zeroValue117
  t222 := Tryz.underlying121
  a222 := Tryz.isAgg121
  z222 := Tryz.sizeOf121
  v222 := Tryz.zeroValue121
  t228 := Tryz.underlying123
  a228 := Tryz.isAgg123
  z228 := Tryz.sizeOf123
  v228 := Tryz.zeroValue123
  t229 := Tryz.underlying124
  a229 := Tryz.isAgg124
  z229 := Tryz.sizeOf124
  v229 := Tryz.zeroValue124 }
def Tryz.lays20_ren : Go.Shelf.Ren := ⟨fun | 20 => 44 | n => n, fun | 22 => 25 | 3 => 3 | 4 => 4 | 0 => 0 | n => n, fun | n => n⟩
theorem Tryz.lays20 : Go.Proofs.Lays2.n20 Tryz.prog Tryz.lays20_ren := {
  mixed := by kernel_rfl
  f20 := Tryz.func44.trans (congrArg some (by kernel_rfl))
  t0 := Tryz.underlying0
  a0 := Tryz.isAgg0
  z0 := Tryz.sizeOf0
  v0 := Tryz.zeroValue0
  t3 := Tryz.underlying3
  a3 := Tryz.isAgg3
  z3 := Tryz.sizeOf3
  v3 := Tryz.zeroValue3
  t4 := Tryz.underlying4
  a4 := Tryz.isAgg4
  z4 := Tryz.sizeOf4
  v4 := Tryz.zeroValue4
  t22 := Tryz.underlying25
  a22 := Tryz.isAgg25
  z22 := Tryz.sizeOf25
  v22 := Tryz.zeroValue25
  i3 := by kernel_rfl }
end Go.Proofs
end
