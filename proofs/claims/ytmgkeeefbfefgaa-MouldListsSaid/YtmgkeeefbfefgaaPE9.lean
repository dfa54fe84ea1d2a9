/- Texts joined by pack.py: lemmas for YtmgkeeefbfefgaaLists. No condition. -/
import Derived.Test.YtmgkeeefbfefgaaPE8
import Derived.Laws.Externs
import Derived.KernelRfl
import Derived.Shelf.Sort.Plain
import Derived.Ground.Names2Prog
import Derived.Shelf.Slices.CompactI
import Derived.Shelf.Slices.In.SortNone
import Derived.Test.YtmgkeeefbfefgaaProg
import Derived.RangeFuncIn
import Derived.LoopNIn
import Derived.ProofKit
import Derived.Lib.SlicesCompact
set_option linter.unusedSimpArgs false
set_option linter.unusedVariables false
set_option linter.defProp false
section
namespace Go.Proofs.Ytmgkeeefbfefgaa.Pt
open Go Go.Proofs Go.Run
set_option maxRecDepth 100000
theorem y0 : mkTI Try.prog 0 = some ⟨1, 0, (.tup []), .other, []⟩ := by kernel_rfl
theorem q0 : TyQ Try.prog 0 (some ⟨1, 0, (.tup []), .other, []⟩) := fun ti h => by cases h; exact ⟨y0, .inl rfl⟩
theorem y1 : mkTI Try.prog 1 = some ⟨1, 8, .nfunc, .func, []⟩ := by kernel_rfl
theorem q1 : TyQ Try.prog 1 (some ⟨1, 8, .nfunc, .func, []⟩) := fun ti h => by cases h; exact ⟨y1, .inl rfl⟩
theorem y2 : mkTI Try.prog 2 = some ⟨1, 8, (.int .i64 0), (.int .i64), []⟩ := by kernel_rfl
theorem q2 : TyQ Try.prog 2 (some ⟨1, 8, (.int .i64 0), (.int .i64), []⟩) := fun ti h => by cases h; exact ⟨y2, .inl rfl⟩
theorem y3 : mkTI Try.prog 3 = some ⟨1, 8, (.int .i64 0), (.int .i64), []⟩ := by kernel_rfl
theorem q3 : TyQ Try.prog 3 (some ⟨1, 8, (.int .i64 0), (.int .i64), []⟩) := fun ti h => by cases h; exact ⟨y3, .inl rfl⟩
theorem y4 : mkTI Try.prog 4 = some ⟨1, 1, (.bool false), .bool, []⟩ := by kernel_rfl
theorem q4 : TyQ Try.prog 4 (some ⟨1, 1, (.bool false), .bool, []⟩) := fun ti h => by cases h; exact ⟨y4, .inl rfl⟩
theorem y5 : mkTI Try.prog 5 = some ⟨1, 1, (.int .u8 0), (.int .u8), []⟩ := by kernel_rfl
theorem q5 : TyQ Try.prog 5 (some ⟨1, 1, (.int .u8 0), (.int .u8), []⟩) := fun ti h => by cases h; exact ⟨y5, .inl rfl⟩
theorem y6 : mkTI Try.prog 6 = some ⟨1, 1, (.int .u8 0), (.int .u8), []⟩ := by kernel_rfl
theorem q6 : TyQ Try.prog 6 (some ⟨1, 1, (.int .u8 0), (.int .u8), []⟩) := fun ti h => by cases h; exact ⟨y6, .inl rfl⟩
theorem y7 : mkTI Try.prog 7 = some ⟨4, 24, (.agg [(.int .i64 0), (.int .i64 0), (.bool false), (.int .u8 0)]), (.strct [(0, 2, 1), (1, 3, 1), (2, 4, 1), (3, 6, 1)]), []⟩ := by kernel_rfl
theorem q7 : TyQ Try.prog 7 (some ⟨4, 24, (.agg [(.int .i64 0), (.int .i64 0), (.bool false), (.int .u8 0)]), (.strct [(0, 2, 1), (1, 3, 1), (2, 4, 1), (3, 6, 1)]), []⟩) := fun ti h => by cases h; exact ⟨y7, .inl rfl⟩
theorem y8 : mkTI Try.prog 8 = some ⟨4, 24, (.agg [(.int .i64 0), (.int .i64 0), (.bool false), (.int .u8 0)]), (.strct [(0, 2, 1), (1, 3, 1), (2, 4, 1), (3, 6, 1)]), []⟩ := by kernel_rfl
theorem q8 : TyQ Try.prog 8 (some ⟨4, 24, (.agg [(.int .i64 0), (.int .i64 0), (.bool false), (.int .u8 0)]), (.strct [(0, 2, 1), (1, 3, 1), (2, 4, 1), (3, 6, 1)]), []⟩) := fun ti h => by cases h; exact ⟨y8, .inl rfl⟩
theorem y9 : mkTI Try.prog 9 = some ⟨1, 16, (.str []), .string, []⟩ := by kernel_rfl
theorem q9 : TyQ Try.prog 9 (some ⟨1, 16, (.str []), .string, []⟩) := fun ti h => by cases h; exact ⟨y9, .inl rfl⟩
theorem y10 : mkTI Try.prog 10 = some ⟨1, 16, (.str []), .string, []⟩ := by kernel_rfl
theorem q10 : TyQ Try.prog 10 (some ⟨1, 16, (.str []), .string, []⟩) := fun ti h => by cases h; exact ⟨y10, .inl rfl⟩
theorem y11 : mkTI Try.prog 11 = some ⟨1, 16, (.str []), .string, []⟩ := by kernel_rfl
theorem q11 : TyQ Try.prog 11 (some ⟨1, 16, (.str []), .string, []⟩) := fun ti h => by cases h; exact ⟨y11, .inl rfl⟩
theorem y12 : mkTI Try.prog 12 = some ⟨1, 8, (.int .u64 0), (.int .u64), []⟩ := by kernel_rfl
theorem q12 : TyQ Try.prog 12 (some ⟨1, 8, (.int .u64 0), (.int .u64), []⟩) := fun ti h => by cases h; exact ⟨y12, .inl rfl⟩
theorem y13 : mkTI Try.prog 13 = some ⟨2, 24, (.agg [(.str []), (.int .u64 0)]), (.strct [(0, 9, 1), (1, 12, 1)]), []⟩ := by kernel_rfl
theorem q13 : TyQ Try.prog 13 (some ⟨2, 24, (.agg [(.str []), (.int .u64 0)]), (.strct [(0, 9, 1), (1, 12, 1)]), []⟩) := fun ti h => by cases h; exact ⟨y13, .inl rfl⟩
theorem y14 : mkTI Try.prog 14 = some ⟨2, 24, (.agg [(.str []), (.int .u64 0)]), (.strct [(0, 9, 1), (1, 12, 1)]), []⟩ := by kernel_rfl
theorem q14 : TyQ Try.prog 14 (some ⟨2, 24, (.agg [(.str []), (.int .u64 0)]), (.strct [(0, 9, 1), (1, 12, 1)]), []⟩) := fun ti h => by cases h; exact ⟨y14, .inl rfl⟩
theorem y15 : mkTI Try.prog 15 = some ⟨1, 8, .nptr, (.ptr 139), []⟩ := by kernel_rfl
theorem q15 : TyQ Try.prog 15 (some ⟨1, 8, .nptr, (.ptr 139), []⟩) := fun ti h => by cases h; exact ⟨y15, .inl rfl⟩
theorem y16 : mkTI Try.prog 16 = some ⟨1, 8, .nptr, (.ptr 142), []⟩ := by kernel_rfl
theorem q16 : TyQ Try.prog 16 (some ⟨1, 8, .nptr, (.ptr 142), []⟩) := fun ti h => by cases h; exact ⟨y16, .inl rfl⟩
theorem y17 : mkTI Try.prog 17 = some ⟨1, 8, .nptr, (.ptr 150), []⟩ := by kernel_rfl
theorem q17 : TyQ Try.prog 17 (some ⟨1, 8, .nptr, (.ptr 150), []⟩) := fun ti h => by cases h; exact ⟨y17, .inl rfl⟩
theorem y18 : mkTI Try.prog 18 = some ⟨1, 8, (.agg [.nptr]), (.strct [(0, 17, 1)]), []⟩ := by kernel_rfl
theorem q18 : TyQ Try.prog 18 (some ⟨1, 8, (.agg [.nptr]), (.strct [(0, 17, 1)]), []⟩) := fun ti h => by cases h; exact ⟨y18, .inl rfl⟩
theorem y19 : mkTI Try.prog 19 = some ⟨1, 8, (.agg [.nptr]), (.strct [(0, 17, 1)]), []⟩ := by kernel_rfl
theorem q19 : TyQ Try.prog 19 (some ⟨1, 8, (.agg [.nptr]), (.strct [(0, 17, 1)]), []⟩) := fun ti h => by cases h; exact ⟨y19, .inl rfl⟩
theorem y20 : mkTI Try.prog 20 = some ⟨1, 16, .niface, .iface, []⟩ := by kernel_rfl
theorem q20 : TyQ Try.prog 20 (some ⟨1, 16, .niface, .iface, []⟩) := fun ti h => by cases h; exact ⟨y20, .inl rfl⟩
theorem y21 : mkTI Try.prog 21 = some ⟨1, 4, (.int .i32 0), (.int .i32), []⟩ := by kernel_rfl
theorem q21 : TyQ Try.prog 21 (some ⟨1, 4, (.int .i32 0), (.int .i32), []⟩) := fun ti h => by cases h; exact ⟨y21, .inl rfl⟩
theorem y22 : mkTI Try.prog 22 = some ⟨1, 24, .nslice, (.slice 58), []⟩ := by kernel_rfl
theorem q22 : TyQ Try.prog 22 (some ⟨1, 24, .nslice, (.slice 58), []⟩) := fun ti h => by cases h; exact ⟨y22, .inl rfl⟩
theorem y23 : mkTI Try.prog 23 = some ⟨3, 40, (.agg [(.int .i64 0), (.int .i64 0), .nslice]), (.strct [(0, 3, 1), (1, 3, 1), (2, 22, 1)]), []⟩ := by kernel_rfl
theorem q23 : TyQ Try.prog 23 (some ⟨3, 40, (.agg [(.int .i64 0), (.int .i64 0), .nslice]), (.strct [(0, 3, 1), (1, 3, 1), (2, 22, 1)]), []⟩) := fun ti h => by cases h; exact ⟨y23, .inl rfl⟩
theorem y24 : mkTI Try.prog 24 = some ⟨3, 40, (.agg [(.int .i64 0), (.int .i64 0), .nslice]), (.strct [(0, 3, 1), (1, 3, 1), (2, 22, 1)]), []⟩ := by kernel_rfl
theorem q24 : TyQ Try.prog 24 (some ⟨3, 40, (.agg [(.int .i64 0), (.int .i64 0), .nslice]), (.strct [(0, 3, 1), (1, 3, 1), (2, 22, 1)]), []⟩) := fun ti h => by cases h; exact ⟨y24, .inl rfl⟩
theorem y25 : mkTI Try.prog 25 = some ⟨1, 24, .nslice, (.slice 3), []⟩ := by kernel_rfl
theorem q25 : TyQ Try.prog 25 (some ⟨1, 24, .nslice, (.slice 3), []⟩) := fun ti h => by cases h; exact ⟨y25, .inl rfl⟩
theorem y26 : mkTI Try.prog 26 = some ⟨1, 8, .nfunc, .func, []⟩ := by kernel_rfl
theorem q26 : TyQ Try.prog 26 (some ⟨1, 8, .nfunc, .func, []⟩) := fun ti h => by cases h; exact ⟨y26, .inl rfl⟩
theorem y27 : mkTI Try.prog 27 = some ⟨1, 8, .nfunc, .func, []⟩ := by kernel_rfl
theorem q27 : TyQ Try.prog 27 (some ⟨1, 8, .nfunc, .func, []⟩) := fun ti h => by cases h; exact ⟨y27, .inl rfl⟩
theorem y28 : mkTI Try.prog 28 = some ⟨1, 8, .nfunc, .func, []⟩ := by kernel_rfl
theorem q28 : TyQ Try.prog 28 (some ⟨1, 8, .nfunc, .func, []⟩) := fun ti h => by cases h; exact ⟨y28, .inl rfl⟩
theorem y29 : mkTI Try.prog 29 = some ⟨1, 8, (.int .i64 0), (.int .i64), []⟩ := by kernel_rfl
theorem q29 : TyQ Try.prog 29 (some ⟨1, 8, (.int .i64 0), (.int .i64), []⟩) := fun ti h => by cases h; exact ⟨y29, .inl rfl⟩
theorem y31 : mkTI Try.prog 31 = some ⟨1, 8, .nfunc, .func, []⟩ := by kernel_rfl
theorem q31 : TyQ Try.prog 31 (some ⟨1, 8, .nfunc, .func, []⟩) := fun ti h => by cases h; exact ⟨y31, .inl rfl⟩
theorem y33 : mkTI Try.prog 33 = some ⟨1, 8, .nfunc, .func, []⟩ := by kernel_rfl
theorem q33 : TyQ Try.prog 33 (some ⟨1, 8, .nfunc, .func, []⟩) := fun ti h => by cases h; exact ⟨y33, .inl rfl⟩
theorem y34 : mkTI Try.prog 34 = some ⟨1, 8, .nfunc, .func, []⟩ := by kernel_rfl
theorem q34 : TyQ Try.prog 34 (some ⟨1, 8, .nfunc, .func, []⟩) := fun ti h => by cases h; exact ⟨y34, .inl rfl⟩
theorem y35 : mkTI Try.prog 35 = some ⟨1, 8, .nfunc, .func, []⟩ := by kernel_rfl
theorem q35 : TyQ Try.prog 35 (some ⟨1, 8, .nfunc, .func, []⟩) := fun ti h => by cases h; exact ⟨y35, .inl rfl⟩
theorem y36 : mkTI Try.prog 36 = some ⟨1, 8, .nfunc, .func, []⟩ := by kernel_rfl
theorem q36 : TyQ Try.prog 36 (some ⟨1, 8, .nfunc, .func, []⟩) := fun ti h => by cases h; exact ⟨y36, .inl rfl⟩
theorem y38 : mkTI Try.prog 38 = some ⟨1, 8, .nfunc, .func, []⟩ := by kernel_rfl
theorem q38 : TyQ Try.prog 38 (some ⟨1, 8, .nfunc, .func, []⟩) := fun ti h => by cases h; exact ⟨y38, .inl rfl⟩
theorem y39 : mkTI Try.prog 39 = some ⟨1, 8, .nfunc, .func, []⟩ := by kernel_rfl
theorem q39 : TyQ Try.prog 39 (some ⟨1, 8, .nfunc, .func, []⟩) := fun ti h => by cases h; exact ⟨y39, .inl rfl⟩
theorem y40 : mkTI Try.prog 40 = some ⟨1, 8, .nfunc, .func, []⟩ := by kernel_rfl
theorem q40 : TyQ Try.prog 40 (some ⟨1, 8, .nfunc, .func, []⟩) := fun ti h => by cases h; exact ⟨y40, .inl rfl⟩
theorem y41 : mkTI Try.prog 41 = some ⟨1, 8, .nfunc, .func, []⟩ := by kernel_rfl
theorem q41 : TyQ Try.prog 41 (some ⟨1, 8, .nfunc, .func, []⟩) := fun ti h => by cases h; exact ⟨y41, .inl rfl⟩
theorem y42 : mkTI Try.prog 42 = some ⟨1, 24, .nslice, (.slice 5), []⟩ := by kernel_rfl
theorem q42 : TyQ Try.prog 42 (some ⟨1, 24, .nslice, (.slice 5), []⟩) := fun ti h => by cases h; exact ⟨y42, .inl rfl⟩
theorem y44 : mkTI Try.prog 44 = some ⟨1, 8, .nfunc, .func, []⟩ := by kernel_rfl
theorem q44 : TyQ Try.prog 44 (some ⟨1, 8, .nfunc, .func, []⟩) := fun ti h => by cases h; exact ⟨y44, .inl rfl⟩
theorem y45 : mkTI Try.prog 45 = some ⟨1, 8, .nfunc, .func, []⟩ := by kernel_rfl
theorem q45 : TyQ Try.prog 45 (some ⟨1, 8, .nfunc, .func, []⟩) := fun ti h => by cases h; exact ⟨y45, .inl rfl⟩
theorem y46 : mkTI Try.prog 46 = some ⟨1, 8, .nfunc, .func, []⟩ := by kernel_rfl
theorem q46 : TyQ Try.prog 46 (some ⟨1, 8, .nfunc, .func, []⟩) := fun ti h => by cases h; exact ⟨y46, .inl rfl⟩
theorem y47 : mkTI Try.prog 47 = some ⟨1, 8, .nfunc, .func, []⟩ := by kernel_rfl
theorem q47 : TyQ Try.prog 47 (some ⟨1, 8, .nfunc, .func, []⟩) := fun ti h => by cases h; exact ⟨y47, .inl rfl⟩
theorem y48 : mkTI Try.prog 48 = some ⟨1, 8, .nfunc, .func, []⟩ := by kernel_rfl
theorem q48 : TyQ Try.prog 48 (some ⟨1, 8, .nfunc, .func, []⟩) := fun ti h => by cases h; exact ⟨y48, .inl rfl⟩
theorem y49 : mkTI Try.prog 49 = some ⟨1, 2, (.int .u16 0), (.int .u16), []⟩ := by kernel_rfl
theorem q49 : TyQ Try.prog 49 (some ⟨1, 2, (.int .u16 0), (.int .u16), []⟩) := fun ti h => by cases h; exact ⟨y49, .inl rfl⟩
theorem y51 : mkTI Try.prog 51 = some ⟨1, 8, .nfunc, .func, []⟩ := by kernel_rfl
theorem q51 : TyQ Try.prog 51 (some ⟨1, 8, .nfunc, .func, []⟩) := fun ti h => by cases h; exact ⟨y51, .inl rfl⟩
theorem y52 : mkTI Try.prog 52 = some ⟨1, 8, .nfunc, .func, []⟩ := by kernel_rfl
theorem q52 : TyQ Try.prog 52 (some ⟨1, 8, .nfunc, .func, []⟩) := fun ti h => by cases h; exact ⟨y52, .inl rfl⟩
theorem y53 : mkTI Try.prog 53 = some ⟨1, 8, .nfunc, .func, []⟩ := by kernel_rfl
theorem q53 : TyQ Try.prog 53 (some ⟨1, 8, .nfunc, .func, []⟩) := fun ti h => by cases h; exact ⟨y53, .inl rfl⟩
theorem y54 : mkTI Try.prog 54 = some ⟨1, 8, .nfunc, .func, []⟩ := by kernel_rfl
theorem q54 : TyQ Try.prog 54 (some ⟨1, 8, .nfunc, .func, []⟩) := fun ti h => by cases h; exact ⟨y54, .inl rfl⟩
theorem y55 : mkTI Try.prog 55 = some ⟨1, 8, .nfunc, .func, []⟩ := by kernel_rfl
theorem q55 : TyQ Try.prog 55 (some ⟨1, 8, .nfunc, .func, []⟩) := fun ti h => by cases h; exact ⟨y55, .inl rfl⟩
theorem y56 : mkTI Try.prog 56 = some ⟨1, 8, .nfunc, .func, []⟩ := by kernel_rfl
theorem q56 : TyQ Try.prog 56 (some ⟨1, 8, .nfunc, .func, []⟩) := fun ti h => by cases h; exact ⟨y56, .inl rfl⟩
theorem y57 : mkTI Try.prog 57 = some ⟨2, 16, (.agg [(.int .i64 0), (.int .i64 0)]), (.strct [(0, 3, 1), (1, 3, 1)]), []⟩ := by kernel_rfl
theorem q57 : TyQ Try.prog 57 (some ⟨2, 16, (.agg [(.int .i64 0), (.int .i64 0)]), (.strct [(0, 3, 1), (1, 3, 1)]), []⟩) := fun ti h => by cases h; exact ⟨y57, .inl rfl⟩
theorem y58 : mkTI Try.prog 58 = some ⟨2, 16, (.agg [(.int .i64 0), (.int .i64 0)]), (.strct [(0, 3, 1), (1, 3, 1)]), []⟩ := by kernel_rfl
theorem z58 : flT Try.prog 58 = [.i, .i] := by kernel_rfl
theorem q58 : TyQ Try.prog 58 (some ⟨2, 16, (.agg [(.int .i64 0), (.int .i64 0)]), (.strct [(0, 3, 1), (1, 3, 1)]), [.i, .i]⟩) := fun ti h => by cases h; exact ⟨y58, .inr z58⟩
theorem y59 : mkTI Try.prog 59 = some ⟨1, 8, .nfunc, .func, []⟩ := by kernel_rfl
theorem q59 : TyQ Try.prog 59 (some ⟨1, 8, .nfunc, .func, []⟩) := fun ti h => by cases h; exact ⟨y59, .inl rfl⟩
theorem y60 : mkTI Try.prog 60 = some ⟨1, 8, .nfunc, .func, []⟩ := by kernel_rfl
theorem q60 : TyQ Try.prog 60 (some ⟨1, 8, .nfunc, .func, []⟩) := fun ti h => by cases h; exact ⟨y60, .inl rfl⟩
theorem y61 : mkTI Try.prog 61 = some ⟨1, 8, .nfunc, .func, []⟩ := by kernel_rfl
theorem q61 : TyQ Try.prog 61 (some ⟨1, 8, .nfunc, .func, []⟩) := fun ti h => by cases h; exact ⟨y61, .inl rfl⟩
theorem y62 : mkTI Try.prog 62 = some ⟨1, 8, .nfunc, .func, []⟩ := by kernel_rfl
theorem q62 : TyQ Try.prog 62 (some ⟨1, 8, .nfunc, .func, []⟩) := fun ti h => by cases h; exact ⟨y62, .inl rfl⟩
theorem y63 : mkTI Try.prog 63 = some ⟨1, 8, .nfunc, .func, []⟩ := by kernel_rfl
theorem q63 : TyQ Try.prog 63 (some ⟨1, 8, .nfunc, .func, []⟩) := fun ti h => by cases h; exact ⟨y63, .inl rfl⟩
theorem y64 : mkTI Try.prog 64 = some ⟨1, 8, .nptr, (.ptr 99), []⟩ := by kernel_rfl
theorem q64 : TyQ Try.prog 64 (some ⟨1, 8, .nptr, (.ptr 99), []⟩) := fun ti h => by cases h; exact ⟨y64, .inl rfl⟩
theorem y66 : mkTI Try.prog 66 = some ⟨1, 8, .nfunc, .func, []⟩ := by kernel_rfl
theorem q66 : TyQ Try.prog 66 (some ⟨1, 8, .nfunc, .func, []⟩) := fun ti h => by cases h; exact ⟨y66, .inl rfl⟩
theorem y67 : mkTI Try.prog 67 = some ⟨6, 48, (.agg [(.int .i64 0), (.int .i64 0), (.int .i64 0), (.int .i64 0), (.int .i64 0), (.int .i64 0)]), (.array 6 3), []⟩ := by kernel_rfl
theorem q67 : TyQ Try.prog 67 (some ⟨6, 48, (.agg [(.int .i64 0), (.int .i64 0), (.int .i64 0), (.int .i64 0), (.int .i64 0), (.int .i64 0)]), (.array 6 3), []⟩) := fun ti h => by cases h; exact ⟨y67, .inl rfl⟩
theorem y68 : mkTI Try.prog 68 = some ⟨6, 48, (.agg [(.int .i64 0), (.int .i64 0), (.int .i64 0), (.int .i64 0), (.int .i64 0), (.int .i64 0)]), (.array 6 3), []⟩ := by kernel_rfl
theorem z68 : flT Try.prog 68 = (List.replicate 6 .i) := by kernel_rfl
theorem q68 : TyQ Try.prog 68 (some ⟨6, 48, (.agg [(.int .i64 0), (.int .i64 0), (.int .i64 0), (.int .i64 0), (.int .i64 0), (.int .i64 0)]), (.array 6 3), (List.replicate 6 .i)⟩) := fun ti h => by cases h; exact ⟨y68, .inr z68⟩
theorem y70 : mkTI Try.prog 70 = some ⟨1, 8, .nfunc, .func, []⟩ := by kernel_rfl
theorem q70 : TyQ Try.prog 70 (some ⟨1, 8, .nfunc, .func, []⟩) := fun ti h => by cases h; exact ⟨y70, .inl rfl⟩
theorem y72 : mkTI Try.prog 72 = some ⟨1, 8, .nfunc, .func, []⟩ := by kernel_rfl
theorem q72 : TyQ Try.prog 72 (some ⟨1, 8, .nfunc, .func, []⟩) := fun ti h => by cases h; exact ⟨y72, .inl rfl⟩
theorem y73 : mkTI Try.prog 73 = some ⟨1, 8, .nfunc, .func, []⟩ := by kernel_rfl
theorem q73 : TyQ Try.prog 73 (some ⟨1, 8, .nfunc, .func, []⟩) := fun ti h => by cases h; exact ⟨y73, .inl rfl⟩
theorem y74 : mkTI Try.prog 74 = some ⟨1, 8, .nfunc, .func, []⟩ := by kernel_rfl
theorem q74 : TyQ Try.prog 74 (some ⟨1, 8, .nfunc, .func, []⟩) := fun ti h => by cases h; exact ⟨y74, .inl rfl⟩
theorem y75 : mkTI Try.prog 75 = some ⟨1, 8, .nfunc, .func, []⟩ := by kernel_rfl
theorem q75 : TyQ Try.prog 75 (some ⟨1, 8, .nfunc, .func, []⟩) := fun ti h => by cases h; exact ⟨y75, .inl rfl⟩
theorem y76 : mkTI Try.prog 76 = some ⟨1, 8, .nfunc, .func, []⟩ := by kernel_rfl
theorem q76 : TyQ Try.prog 76 (some ⟨1, 8, .nfunc, .func, []⟩) := fun ti h => by cases h; exact ⟨y76, .inl rfl⟩
theorem y77 : mkTI Try.prog 77 = some ⟨1, 8, .nfunc, .func, []⟩ := by kernel_rfl
theorem q77 : TyQ Try.prog 77 (some ⟨1, 8, .nfunc, .func, []⟩) := fun ti h => by cases h; exact ⟨y77, .inl rfl⟩
theorem y78 : mkTI Try.prog 78 = some ⟨1, 8, .nfunc, .func, []⟩ := by kernel_rfl
theorem q78 : TyQ Try.prog 78 (some ⟨1, 8, .nfunc, .func, []⟩) := fun ti h => by cases h; exact ⟨y78, .inl rfl⟩
theorem y79 : mkTI Try.prog 79 = some ⟨1, 8, .nfunc, .func, []⟩ := by kernel_rfl
theorem q79 : TyQ Try.prog 79 (some ⟨1, 8, .nfunc, .func, []⟩) := fun ti h => by cases h; exact ⟨y79, .inl rfl⟩
theorem y80 : mkTI Try.prog 80 = some ⟨1, 8, .nfunc, .func, []⟩ := by kernel_rfl
theorem q80 : TyQ Try.prog 80 (some ⟨1, 8, .nfunc, .func, []⟩) := fun ti h => by cases h; exact ⟨y80, .inl rfl⟩
theorem y81 : mkTI Try.prog 81 = some ⟨1, 8, .nfunc, .func, []⟩ := by kernel_rfl
theorem q81 : TyQ Try.prog 81 (some ⟨1, 8, .nfunc, .func, []⟩) := fun ti h => by cases h; exact ⟨y81, .inl rfl⟩
theorem y82 : mkTI Try.prog 82 = some ⟨1, 8, .nfunc, .func, []⟩ := by kernel_rfl
theorem q82 : TyQ Try.prog 82 (some ⟨1, 8, .nfunc, .func, []⟩) := fun ti h => by cases h; exact ⟨y82, .inl rfl⟩
theorem y83 : mkTI Try.prog 83 = some ⟨1, 8, .nmap, (.map 3 3), []⟩ := by kernel_rfl
theorem q83 : TyQ Try.prog 83 (some ⟨1, 8, .nmap, (.map 3 3), []⟩) := fun ti h => by cases h; exact ⟨y83, .inl rfl⟩
theorem y84 : mkTI Try.prog 84 = some ⟨1, 8, .nfunc, .func, []⟩ := by kernel_rfl
theorem q84 : TyQ Try.prog 84 (some ⟨1, 8, .nfunc, .func, []⟩) := fun ti h => by cases h; exact ⟨y84, .inl rfl⟩
theorem y85 : mkTI Try.prog 85 = some ⟨1, 8, .nfunc, .func, []⟩ := by kernel_rfl
theorem q85 : TyQ Try.prog 85 (some ⟨1, 8, .nfunc, .func, []⟩) := fun ti h => by cases h; exact ⟨y85, .inl rfl⟩
theorem y86 : mkTI Try.prog 86 = some ⟨1, 8, .nfunc, .func, []⟩ := by kernel_rfl
theorem q86 : TyQ Try.prog 86 (some ⟨1, 8, .nfunc, .func, []⟩) := fun ti h => by cases h; exact ⟨y86, .inl rfl⟩
theorem y87 : mkTI Try.prog 87 = some ⟨1, 8, .nfunc, .func, []⟩ := by kernel_rfl
theorem q87 : TyQ Try.prog 87 (some ⟨1, 8, .nfunc, .func, []⟩) := fun ti h => by cases h; exact ⟨y87, .inl rfl⟩
theorem y88 : mkTI Try.prog 88 = some ⟨1, 8, .nfunc, .func, []⟩ := by kernel_rfl
theorem q88 : TyQ Try.prog 88 (some ⟨1, 8, .nfunc, .func, []⟩) := fun ti h => by cases h; exact ⟨y88, .inl rfl⟩
theorem y89 : mkTI Try.prog 89 = some ⟨1, 8, .nfunc, .func, []⟩ := by kernel_rfl
theorem q89 : TyQ Try.prog 89 (some ⟨1, 8, .nfunc, .func, []⟩) := fun ti h => by cases h; exact ⟨y89, .inl rfl⟩
theorem y90 : mkTI Try.prog 90 = some ⟨1, 8, .nfunc, .func, []⟩ := by kernel_rfl
theorem q90 : TyQ Try.prog 90 (some ⟨1, 8, .nfunc, .func, []⟩) := fun ti h => by cases h; exact ⟨y90, .inl rfl⟩
theorem y91 : mkTI Try.prog 91 = some ⟨1, 8, .nfunc, .func, []⟩ := by kernel_rfl
theorem q91 : TyQ Try.prog 91 (some ⟨1, 8, .nfunc, .func, []⟩) := fun ti h => by cases h; exact ⟨y91, .inl rfl⟩
theorem y92 : mkTI Try.prog 92 = some ⟨1, 8, .nfunc, .func, []⟩ := by kernel_rfl
theorem q92 : TyQ Try.prog 92 (some ⟨1, 8, .nfunc, .func, []⟩) := fun ti h => by cases h; exact ⟨y92, .inl rfl⟩
theorem y93 : mkTI Try.prog 93 = some ⟨1, 8, .nfunc, .func, []⟩ := by kernel_rfl
theorem q93 : TyQ Try.prog 93 (some ⟨1, 8, .nfunc, .func, []⟩) := fun ti h => by cases h; exact ⟨y93, .inl rfl⟩
theorem y94 : mkTI Try.prog 94 = some ⟨1, 8, .nfunc, .func, []⟩ := by kernel_rfl
theorem q94 : TyQ Try.prog 94 (some ⟨1, 8, .nfunc, .func, []⟩) := fun ti h => by cases h; exact ⟨y94, .inl rfl⟩
theorem y95 : mkTI Try.prog 95 = some ⟨1, 8, .nfunc, .func, []⟩ := by kernel_rfl
theorem q95 : TyQ Try.prog 95 (some ⟨1, 8, .nfunc, .func, []⟩) := fun ti h => by cases h; exact ⟨y95, .inl rfl⟩
theorem y96 : mkTI Try.prog 96 = some ⟨1, 8, .nfunc, .func, []⟩ := by kernel_rfl
theorem q96 : TyQ Try.prog 96 (some ⟨1, 8, .nfunc, .func, []⟩) := fun ti h => by cases h; exact ⟨y96, .inl rfl⟩
theorem y97 : mkTI Try.prog 97 = some ⟨1, 8, .nmap, (.map 101 3), []⟩ := by kernel_rfl
theorem q97 : TyQ Try.prog 97 (some ⟨1, 8, .nmap, (.map 101 3), []⟩) := fun ti h => by cases h; exact ⟨y97, .inl rfl⟩
theorem y98 : mkTI Try.prog 98 = some ⟨4, 48, (.agg [(.int .i64 0), (.int .i64 0), .nslice, .nmap]), (.strct [(0, 24, 3), (3, 97, 1)]), []⟩ := by kernel_rfl
theorem q98 : TyQ Try.prog 98 (some ⟨4, 48, (.agg [(.int .i64 0), (.int .i64 0), .nslice, .nmap]), (.strct [(0, 24, 3), (3, 97, 1)]), []⟩) := fun ti h => by cases h; exact ⟨y98, .inl rfl⟩
theorem y99 : mkTI Try.prog 99 = some ⟨4, 48, (.agg [(.int .i64 0), (.int .i64 0), .nslice, .nmap]), (.strct [(0, 24, 3), (3, 97, 1)]), []⟩ := by kernel_rfl
theorem q99 : TyQ Try.prog 99 (some ⟨4, 48, (.agg [(.int .i64 0), (.int .i64 0), .nslice, .nmap]), (.strct [(0, 24, 3), (3, 97, 1)]), []⟩) := fun ti h => by cases h; exact ⟨y99, .inl rfl⟩
theorem y100 : mkTI Try.prog 100 = some ⟨3, 24, (.agg [(.int .i64 0), (.int .i64 0), (.int .i64 0)]), (.strct [(0, 3, 1), (1, 3, 1), (2, 3, 1)]), []⟩ := by kernel_rfl
theorem q100 : TyQ Try.prog 100 (some ⟨3, 24, (.agg [(.int .i64 0), (.int .i64 0), (.int .i64 0)]), (.strct [(0, 3, 1), (1, 3, 1), (2, 3, 1)]), []⟩) := fun ti h => by cases h; exact ⟨y100, .inl rfl⟩
theorem y101 : mkTI Try.prog 101 = some ⟨3, 24, (.agg [(.int .i64 0), (.int .i64 0), (.int .i64 0)]), (.strct [(0, 3, 1), (1, 3, 1), (2, 3, 1)]), []⟩ := by kernel_rfl
theorem z101 : flT Try.prog 101 = [.i, .i, .i] := by kernel_rfl
theorem q101 : TyQ Try.prog 101 (some ⟨3, 24, (.agg [(.int .i64 0), (.int .i64 0), (.int .i64 0)]), (.strct [(0, 3, 1), (1, 3, 1), (2, 3, 1)]), [.i, .i, .i]⟩) := fun ti h => by cases h; exact ⟨y101, .inr z101⟩
theorem y102 : mkTI Try.prog 102 = some ⟨6, 48, (.agg [(.int .i64 0), (.int .i64 0), (.int .i64 0), (.int .i64 0), (.int .i64 0), (.int .i64 0)]), (.array 2 101), []⟩ := by kernel_rfl
theorem q102 : TyQ Try.prog 102 (some ⟨6, 48, (.agg [(.int .i64 0), (.int .i64 0), (.int .i64 0), (.int .i64 0), (.int .i64 0), (.int .i64 0)]), (.array 2 101), []⟩) := fun ti h => by cases h; exact ⟨y102, .inl rfl⟩
theorem y103 : mkTI Try.prog 103 = some ⟨1, 8, .nfunc, .func, []⟩ := by kernel_rfl
theorem q103 : TyQ Try.prog 103 (some ⟨1, 8, .nfunc, .func, []⟩) := fun ti h => by cases h; exact ⟨y103, .inl rfl⟩
theorem y105 : mkTI Try.prog 105 = some ⟨1, 8, .nfunc, .func, []⟩ := by kernel_rfl
theorem q105 : TyQ Try.prog 105 (some ⟨1, 8, .nfunc, .func, []⟩) := fun ti h => by cases h; exact ⟨y105, .inl rfl⟩
theorem y106 : mkTI Try.prog 106 = some ⟨1, 8, .nfunc, .func, []⟩ := by kernel_rfl
theorem q106 : TyQ Try.prog 106 (some ⟨1, 8, .nfunc, .func, []⟩) := fun ti h => by cases h; exact ⟨y106, .inl rfl⟩
theorem y107 : mkTI Try.prog 107 = some ⟨1, 8, .nfunc, .func, []⟩ := by kernel_rfl
theorem q107 : TyQ Try.prog 107 (some ⟨1, 8, .nfunc, .func, []⟩) := fun ti h => by cases h; exact ⟨y107, .inl rfl⟩
theorem y108 : mkTI Try.prog 108 = some ⟨1, 8, .nfunc, .func, []⟩ := by kernel_rfl
theorem q108 : TyQ Try.prog 108 (some ⟨1, 8, .nfunc, .func, []⟩) := fun ti h => by cases h; exact ⟨y108, .inl rfl⟩
theorem y109 : mkTI Try.prog 109 = some ⟨1, 8, .nfunc, .func, []⟩ := by kernel_rfl
theorem q109 : TyQ Try.prog 109 (some ⟨1, 8, .nfunc, .func, []⟩) := fun ti h => by cases h; exact ⟨y109, .inl rfl⟩
theorem y110 : mkTI Try.prog 110 = some ⟨1, 8, .nfunc, .func, []⟩ := by kernel_rfl
theorem q110 : TyQ Try.prog 110 (some ⟨1, 8, .nfunc, .func, []⟩) := fun ti h => by cases h; exact ⟨y110, .inl rfl⟩
theorem y111 : mkTI Try.prog 111 = some ⟨1, 8, (.int .u64 0), (.int .u64), []⟩ := by kernel_rfl
theorem q111 : TyQ Try.prog 111 (some ⟨1, 8, (.int .u64 0), (.int .u64), []⟩) := fun ti h => by cases h; exact ⟨y111, .inl rfl⟩
theorem y112 : mkTI Try.prog 112 = some ⟨1, 8, .nfunc, .func, []⟩ := by kernel_rfl
theorem q112 : TyQ Try.prog 112 (some ⟨1, 8, .nfunc, .func, []⟩) := fun ti h => by cases h; exact ⟨y112, .inl rfl⟩
theorem y113 : mkTI Try.prog 113 = some ⟨1, 8, .nfunc, .func, []⟩ := by kernel_rfl
theorem q113 : TyQ Try.prog 113 (some ⟨1, 8, .nfunc, .func, []⟩) := fun ti h => by cases h; exact ⟨y113, .inl rfl⟩
theorem y114 : mkTI Try.prog 114 = some ⟨1, 8, .nfunc, .func, []⟩ := by kernel_rfl
theorem q114 : TyQ Try.prog 114 (some ⟨1, 8, .nfunc, .func, []⟩) := fun ti h => by cases h; exact ⟨y114, .inl rfl⟩
theorem y115 : mkTI Try.prog 115 = some ⟨1, 8, .nfunc, .func, []⟩ := by kernel_rfl
theorem q115 : TyQ Try.prog 115 (some ⟨1, 8, .nfunc, .func, []⟩) := fun ti h => by cases h; exact ⟨y115, .inl rfl⟩
theorem y116 : mkTI Try.prog 116 = some ⟨1, 8, .nfunc, .func, []⟩ := by kernel_rfl
theorem q116 : TyQ Try.prog 116 (some ⟨1, 8, .nfunc, .func, []⟩) := fun ti h => by cases h; exact ⟨y116, .inl rfl⟩
theorem y117 : mkTI Try.prog 117 = some ⟨1, 8, (.int .i64 0), (.int .i64), []⟩ := by kernel_rfl
theorem q117 : TyQ Try.prog 117 (some ⟨1, 8, (.int .i64 0), (.int .i64), []⟩) := fun ti h => by cases h; exact ⟨y117, .inl rfl⟩
theorem y119 : mkTI Try.prog 119 = some ⟨1, 8, .nfunc, .func, []⟩ := by kernel_rfl
theorem q119 : TyQ Try.prog 119 (some ⟨1, 8, .nfunc, .func, []⟩) := fun ti h => by cases h; exact ⟨y119, .inl rfl⟩
theorem y120 : mkTI Try.prog 120 = some ⟨1, 8, .nfunc, .func, []⟩ := by kernel_rfl
theorem q120 : TyQ Try.prog 120 (some ⟨1, 8, .nfunc, .func, []⟩) := fun ti h => by cases h; exact ⟨y120, .inl rfl⟩
theorem y121 : mkTI Try.prog 121 = some ⟨1, 8, .nfunc, .func, []⟩ := by kernel_rfl
theorem q121 : TyQ Try.prog 121 (some ⟨1, 8, .nfunc, .func, []⟩) := fun ti h => by cases h; exact ⟨y121, .inl rfl⟩
theorem y122 : mkTI Try.prog 122 = some ⟨1, 8, .nfunc, .func, []⟩ := by kernel_rfl
theorem q122 : TyQ Try.prog 122 (some ⟨1, 8, .nfunc, .func, []⟩) := fun ti h => by cases h; exact ⟨y122, .inl rfl⟩
theorem y123 : mkTI Try.prog 123 = some ⟨1, 4, (.int .u32 0), (.int .u32), []⟩ := by kernel_rfl
theorem q123 : TyQ Try.prog 123 (some ⟨1, 4, (.int .u32 0), (.int .u32), []⟩) := fun ti h => by cases h; exact ⟨y123, .inl rfl⟩
theorem y124 : mkTI Try.prog 124 = some ⟨1, 8, .nfunc, .func, []⟩ := by kernel_rfl
theorem q124 : TyQ Try.prog 124 (some ⟨1, 8, .nfunc, .func, []⟩) := fun ti h => by cases h; exact ⟨y124, .inl rfl⟩
theorem y125 : mkTI Try.prog 125 = some ⟨1, 8, (.int .u64 0), (.int .u64), []⟩ := by kernel_rfl
theorem q125 : TyQ Try.prog 125 (some ⟨1, 8, (.int .u64 0), (.int .u64), []⟩) := fun ti h => by cases h; exact ⟨y125, .inl rfl⟩
theorem y126 : mkTI Try.prog 126 = some ⟨1, 8, .nfunc, .func, []⟩ := by kernel_rfl
theorem q126 : TyQ Try.prog 126 (some ⟨1, 8, .nfunc, .func, []⟩) := fun ti h => by cases h; exact ⟨y126, .inl rfl⟩
theorem y127 : mkTI Try.prog 127 = some ⟨1, 8, .nfunc, .func, []⟩ := by kernel_rfl
theorem q127 : TyQ Try.prog 127 (some ⟨1, 8, .nfunc, .func, []⟩) := fun ti h => by cases h; exact ⟨y127, .inl rfl⟩
theorem y128 : mkTI Try.prog 128 = some ⟨1, 8, (.int .u64 0), (.int .u64), []⟩ := by kernel_rfl
theorem q128 : TyQ Try.prog 128 (some ⟨1, 8, (.int .u64 0), (.int .u64), []⟩) := fun ti h => by cases h; exact ⟨y128, .inl rfl⟩
theorem y129 : mkTI Try.prog 129 = some ⟨1, 8, .nfunc, .func, []⟩ := by kernel_rfl
theorem q129 : TyQ Try.prog 129 (some ⟨1, 8, .nfunc, .func, []⟩) := fun ti h => by cases h; exact ⟨y129, .inl rfl⟩
theorem y130 : mkTI Try.prog 130 = some ⟨1, 8, .nfunc, .func, []⟩ := by kernel_rfl
theorem q130 : TyQ Try.prog 130 (some ⟨1, 8, .nfunc, .func, []⟩) := fun ti h => by cases h; exact ⟨y130, .inl rfl⟩
theorem y131 : mkTI Try.prog 131 = some ⟨1, 8, .nfunc, .func, []⟩ := by kernel_rfl
theorem q131 : TyQ Try.prog 131 (some ⟨1, 8, .nfunc, .func, []⟩) := fun ti h => by cases h; exact ⟨y131, .inl rfl⟩
theorem y132 : mkTI Try.prog 132 = some ⟨1, 8, .nptr, (.ptr 3), []⟩ := by kernel_rfl
theorem q132 : TyQ Try.prog 132 (some ⟨1, 8, .nptr, (.ptr 3), []⟩) := fun ti h => by cases h; exact ⟨y132, .inl rfl⟩
theorem y133 : mkTI Try.prog 133 = some ⟨1, 8, .nfunc, .func, []⟩ := by kernel_rfl
theorem q133 : TyQ Try.prog 133 (some ⟨1, 8, .nfunc, .func, []⟩) := fun ti h => by cases h; exact ⟨y133, .inl rfl⟩
theorem y134 : mkTI Try.prog 134 = some ⟨1, 8, .nptr, (.ptr 128), []⟩ := by kernel_rfl
theorem q134 : TyQ Try.prog 134 (some ⟨1, 8, .nptr, (.ptr 128), []⟩) := fun ti h => by cases h; exact ⟨y134, .inl rfl⟩
theorem y136 : mkTI Try.prog 136 = some ⟨1, 8, .nfunc, .func, []⟩ := by kernel_rfl
theorem q136 : TyQ Try.prog 136 (some ⟨1, 8, .nfunc, .func, []⟩) := fun ti h => by cases h; exact ⟨y136, .inl rfl⟩
theorem y137 : mkTI Try.prog 137 = some ⟨1, 8, .nfunc, .func, []⟩ := by kernel_rfl
theorem q137 : TyQ Try.prog 137 (some ⟨1, 8, .nfunc, .func, []⟩) := fun ti h => by cases h; exact ⟨y137, .inl rfl⟩
theorem y138 : mkTI Try.prog 138 = some ⟨4, 40, (.agg [.nptr, .nptr, .nptr, (.str [])]), (.strct [(0, 17, 1), (1, 17, 1), (2, 17, 1), (3, 9, 1)]), []⟩ := by kernel_rfl
theorem q138 : TyQ Try.prog 138 (some ⟨4, 40, (.agg [.nptr, .nptr, .nptr, (.str [])]), (.strct [(0, 17, 1), (1, 17, 1), (2, 17, 1), (3, 9, 1)]), []⟩) := fun ti h => by cases h; exact ⟨y138, .inl rfl⟩
theorem y139 : mkTI Try.prog 139 = some ⟨4, 40, (.agg [.nptr, .nptr, .nptr, (.str [])]), (.strct [(0, 17, 1), (1, 17, 1), (2, 17, 1), (3, 9, 1)]), []⟩ := by kernel_rfl
theorem q139 : TyQ Try.prog 139 (some ⟨4, 40, (.agg [.nptr, .nptr, .nptr, (.str [])]), (.strct [(0, 17, 1), (1, 17, 1), (2, 17, 1), (3, 9, 1)]), []⟩) := fun ti h => by cases h; exact ⟨y139, .inl rfl⟩
theorem y140 : mkTI Try.prog 140 = some ⟨0, 0, (.agg []), (.array 0 16), []⟩ := by kernel_rfl
theorem q140 : TyQ Try.prog 140 (some ⟨0, 0, (.agg []), (.array 0 16), []⟩) := fun ti h => by cases h; exact ⟨y140, .inl rfl⟩
theorem y141 : mkTI Try.prog 141 = some ⟨0, 0, (.agg []), (.strct [(0, 140, 0)]), []⟩ := by kernel_rfl
theorem q141 : TyQ Try.prog 141 (some ⟨0, 0, (.agg []), (.strct [(0, 140, 0)]), []⟩) := fun ti h => by cases h; exact ⟨y141, .inl rfl⟩
theorem y142 : mkTI Try.prog 142 = some ⟨0, 0, (.agg []), (.strct [(0, 140, 0)]), []⟩ := by kernel_rfl
theorem q142 : TyQ Try.prog 142 (some ⟨0, 0, (.agg []), (.strct [(0, 140, 0)]), []⟩) := fun ti h => by cases h; exact ⟨y142, .inl rfl⟩
theorem y143 : mkTI Try.prog 143 = some ⟨1, 1, (.int .u8 0), (.int .u8), []⟩ := by kernel_rfl
theorem q143 : TyQ Try.prog 143 (some ⟨1, 1, (.int .u8 0), (.int .u8), []⟩) := fun ti h => by cases h; exact ⟨y143, .inl rfl⟩
theorem y144 : mkTI Try.prog 144 = some ⟨1, 1, (.int .u8 0), (.int .u8), []⟩ := by kernel_rfl
theorem q144 : TyQ Try.prog 144 (some ⟨1, 1, (.int .u8 0), (.int .u8), []⟩) := fun ti h => by cases h; exact ⟨y144, .inl rfl⟩
theorem y145 : mkTI Try.prog 145 = some ⟨1, 8, .nfunc, .func, []⟩ := by kernel_rfl
theorem q145 : TyQ Try.prog 145 (some ⟨1, 8, .nfunc, .func, []⟩) := fun ti h => by cases h; exact ⟨y145, .inl rfl⟩
theorem y146 : mkTI Try.prog 146 = some ⟨1, 8, .nptr, (.ptr 5), []⟩ := by kernel_rfl
theorem q146 : TyQ Try.prog 146 (some ⟨1, 8, .nptr, (.ptr 5), []⟩) := fun ti h => by cases h; exact ⟨y146, .inl rfl⟩
theorem y147 : mkTI Try.prog 147 = some ⟨1, 4, (.int .i32 0), (.int .i32), []⟩ := by kernel_rfl
theorem q147 : TyQ Try.prog 147 (some ⟨1, 4, (.int .i32 0), (.int .i32), []⟩) := fun ti h => by cases h; exact ⟨y147, .inl rfl⟩
theorem y148 : mkTI Try.prog 148 = some ⟨1, 4, (.int .i32 0), (.int .i32), []⟩ := by kernel_rfl
theorem q148 : TyQ Try.prog 148 (some ⟨1, 4, (.int .i32 0), (.int .i32), []⟩) := fun ti h => by cases h; exact ⟨y148, .inl rfl⟩
theorem y149 : mkTI Try.prog 149 = some ⟨11, 48, (.agg [(.int .u64 0), (.int .u64 0), (.int .u32 0), (.int .u8 0), (.int .u8 0), (.int .u8 0), (.int .u8 0), .nfunc, .nptr, (.int .i32 0), (.int .i32 0)]), (.strct [(0, 12, 1), (1, 12, 1), (2, 123, 1), (3, 143, 1), (4, 5, 1), (5, 5, 1), (6, 144, 1), (7, 145, 1), (8, 146, 1), (9, 147, 1), (10, 148, 1)]), []⟩ := by kernel_rfl
theorem q149 : TyQ Try.prog 149 (some ⟨11, 48, (.agg [(.int .u64 0), (.int .u64 0), (.int .u32 0), (.int .u8 0), (.int .u8 0), (.int .u8 0), (.int .u8 0), .nfunc, .nptr, (.int .i32 0), (.int .i32 0)]), (.strct [(0, 12, 1), (1, 12, 1), (2, 123, 1), (3, 143, 1), (4, 5, 1), (5, 5, 1), (6, 144, 1), (7, 145, 1), (8, 146, 1), (9, 147, 1), (10, 148, 1)]), []⟩) := fun ti h => by cases h; exact ⟨y149, .inl rfl⟩
theorem y150 : mkTI Try.prog 150 = some ⟨11, 48, (.agg [(.int .u64 0), (.int .u64 0), (.int .u32 0), (.int .u8 0), (.int .u8 0), (.int .u8 0), (.int .u8 0), .nfunc, .nptr, (.int .i32 0), (.int .i32 0)]), (.strct [(0, 12, 1), (1, 12, 1), (2, 123, 1), (3, 143, 1), (4, 5, 1), (5, 5, 1), (6, 144, 1), (7, 145, 1), (8, 146, 1), (9, 147, 1), (10, 148, 1)]), []⟩ := by kernel_rfl
theorem q150 : TyQ Try.prog 150 (some ⟨11, 48, (.agg [(.int .u64 0), (.int .u64 0), (.int .u32 0), (.int .u8 0), (.int .u8 0), (.int .u8 0), (.int .u8 0), .nfunc, .nptr, (.int .i32 0), (.int .i32 0)]), (.strct [(0, 12, 1), (1, 12, 1), (2, 123, 1), (3, 143, 1), (4, 5, 1), (5, 5, 1), (6, 144, 1), (7, 145, 1), (8, 146, 1), (9, 147, 1), (10, 148, 1)]), []⟩) := fun ti h => by cases h; exact ⟨y150, .inl rfl⟩
theorem y151 : mkTI Try.prog 151 = some ⟨1, 8, .nptr, .other, []⟩ := by kernel_rfl
theorem q151 : TyQ Try.prog 151 (some ⟨1, 8, .nptr, .other, []⟩) := fun ti h => by cases h; exact ⟨y151, .inl rfl⟩
theorem g2 : FnQ Try.prog 2 (some ff2) := fun fi h => by cases h; kernel_rfl
theorem g3 : FnQ Try.prog 3 (some ff3) := fun fi h => by cases h; kernel_rfl
theorem g4 : FnQ Try.prog 4 (some ff4) := fun fi h => by cases h; kernel_rfl
theorem g5 : FnQ Try.prog 5 (some ff5) := fun fi h => by cases h; kernel_rfl
theorem g6 : FnQ Try.prog 6 (some ff6) := fun fi h => by cases h; kernel_rfl
theorem g7 : FnQ Try.prog 7 (some ff7) := fun fi h => by cases h; kernel_rfl
theorem g8 : FnQ Try.prog 8 (some ff8) := fun fi h => by cases h; kernel_rfl
theorem g9 : FnQ Try.prog 9 (some ff9) := fun fi h => by cases h; kernel_rfl
theorem g10 : FnQ Try.prog 10 (some ff10) := fun fi h => by cases h; kernel_rfl
theorem g11 : FnQ Try.prog 11 (some ff11) := fun fi h => by cases h; kernel_rfl
theorem g12 : FnQ Try.prog 12 (some ff12) := fun fi h => by cases h; kernel_rfl
theorem g13 : FnQ Try.prog 13 (some ff13) := fun fi h => by cases h; kernel_rfl
theorem g14 : FnQ Try.prog 14 (some ff14) := fun fi h => by cases h; kernel_rfl
theorem g15 : FnQ Try.prog 15 (some ff15) := fun fi h => by cases h; kernel_rfl
theorem g16 : FnQ Try.prog 16 (some ff16) := fun fi h => by cases h; kernel_rfl
theorem g17 : FnQ Try.prog 17 (some ff17) := fun fi h => by cases h; kernel_rfl
theorem g18 : FnQ Try.prog 18 (some ff18) := fun fi h => by cases h; kernel_rfl
theorem g19 : FnQ Try.prog 19 (some ff19) := fun fi h => by cases h; kernel_rfl
theorem g20 : FnQ Try.prog 20 (some ff20) := fun fi h => by cases h; kernel_rfl
theorem g21 : FnQ Try.prog 21 (some ff21) := fun fi h => by cases h; kernel_rfl
theorem g22 : FnQ Try.prog 22 (some ff22) := fun fi h => by cases h; kernel_rfl
theorem g23 : FnQ Try.prog 23 (some ff23) := fun fi h => by cases h; kernel_rfl
theorem g24 : FnQ Try.prog 24 (some ff24) := fun fi h => by cases h; kernel_rfl
theorem g25 : FnQ Try.prog 25 (some ff25) := fun fi h => by cases h; kernel_rfl
theorem g26 : FnQ Try.prog 26 (some ff26) := fun fi h => by cases h; kernel_rfl
theorem g27 : FnQ Try.prog 27 (some ff27) := fun fi h => by cases h; kernel_rfl
theorem g28 : FnQ Try.prog 28 (some ff28) := fun fi h => by cases h; kernel_rfl
theorem g29 : FnQ Try.prog 29 (some ff29) := fun fi h => by cases h; kernel_rfl
theorem g30 : FnQ Try.prog 30 (some ff30) := fun fi h => by cases h; kernel_rfl
theorem g31 : FnQ Try.prog 31 (some ff31) := fun fi h => by cases h; kernel_rfl
theorem g32 : FnQ Try.prog 32 (some ff32) := fun fi h => by cases h; kernel_rfl
theorem g33 : FnQ Try.prog 33 (some ff33) := fun fi h => by cases h; kernel_rfl
theorem g34 : FnQ Try.prog 34 (some ff34) := fun fi h => by cases h; kernel_rfl
theorem g35 : FnQ Try.prog 35 (some ff35) := fun fi h => by cases h; kernel_rfl
theorem g36 : FnQ Try.prog 36 (some ff36) := fun fi h => by cases h; kernel_rfl
theorem g37 : FnQ Try.prog 37 (some ff37) := fun fi h => by cases h; kernel_rfl
theorem g38 : FnQ Try.prog 38 (some ff38) := fun fi h => by cases h; kernel_rfl
theorem g39 : FnQ Try.prog 39 (some ff39) := fun fi h => by cases h; kernel_rfl
theorem g40 : FnQ Try.prog 40 (some ff40) := fun fi h => by cases h; kernel_rfl
theorem g41 : FnQ Try.prog 41 (some ff41) := fun fi h => by cases h; kernel_rfl
theorem g42 : FnQ Try.prog 42 (some ff42) := fun fi h => by cases h; kernel_rfl
theorem g43 : FnQ Try.prog 43 (some ff43) := fun fi h => by cases h; kernel_rfl
theorem g44 : FnQ Try.prog 44 (some ff44) := fun fi h => by cases h; kernel_rfl
theorem g45 : FnQ Try.prog 45 (some ff45) := fun fi h => by cases h; kernel_rfl
theorem g46 : FnQ Try.prog 46 (some ff46) := fun fi h => by cases h; kernel_rfl
theorem g47 : FnQ Try.prog 47 (some ff47) := fun fi h => by cases h; kernel_rfl
theorem g48 : FnQ Try.prog 48 (some ff48) := fun fi h => by cases h; kernel_rfl
theorem g49 : FnQ Try.prog 49 (some ff49) := fun fi h => by cases h; kernel_rfl
theorem g50 : FnQ Try.prog 50 (some ff50) := fun fi h => by cases h; kernel_rfl
theorem g51 : FnQ Try.prog 51 (some ff51) := fun fi h => by cases h; kernel_rfl
theorem g52 : FnQ Try.prog 52 (some ff52) := fun fi h => by cases h; kernel_rfl
theorem g53 : FnQ Try.prog 53 (some ff53) := fun fi h => by cases h; kernel_rfl
theorem g54 : FnQ Try.prog 54 (some ff54) := fun fi h => by cases h; kernel_rfl
theorem g55 : FnQ Try.prog 55 (some ff55) := fun fi h => by cases h; kernel_rfl
theorem g56 : FnQ Try.prog 56 (some ff56) := fun fi h => by cases h; kernel_rfl
theorem g57 : FnQ Try.prog 57 (some ff57) := fun fi h => by cases h; kernel_rfl
theorem g58 : FnQ Try.prog 58 (some ff58) := fun fi h => by cases h; kernel_rfl
theorem g59 : FnQ Try.prog 59 (some ff59) := fun fi h => by cases h; kernel_rfl
theorem g60 : FnQ Try.prog 60 (some ff60) := fun fi h => by cases h; kernel_rfl
theorem g61 : FnQ Try.prog 61 (some ff61) := fun fi h => by cases h; kernel_rfl
theorem g62 : FnQ Try.prog 62 (some ff62) := fun fi h => by cases h; kernel_rfl
theorem g63 : FnQ Try.prog 63 (some ff63) := fun fi h => by cases h; kernel_rfl
theorem g64 : FnQ Try.prog 64 (some ff64) := fun fi h => by cases h; kernel_rfl
theorem g65 : FnQ Try.prog 65 (some ff65) := fun fi h => by cases h; kernel_rfl
theorem g66 : FnQ Try.prog 66 (some ff66) := fun fi h => by cases h; kernel_rfl
theorem g67 : FnQ Try.prog 67 (some ff67) := fun fi h => by cases h; kernel_rfl
theorem g68 : FnQ Try.prog 68 (some ff68) := fun fi h => by cases h; kernel_rfl
theorem g69 : FnQ Try.prog 69 (some ff69) := fun fi h => by cases h; kernel_rfl
theorem g70 : FnQ Try.prog 70 (some ff70) := fun fi h => by cases h; kernel_rfl
theorem g71 : FnQ Try.prog 71 (some ff71) := fun fi h => by cases h; kernel_rfl
theorem g72 : FnQ Try.prog 72 (some ff72) := fun fi h => by cases h; kernel_rfl
theorem g73 : FnQ Try.prog 73 (some ff73) := fun fi h => by cases h; kernel_rfl
theorem g74 : FnQ Try.prog 74 (some ff74) := fun fi h => by cases h; kernel_rfl
theorem g75 : FnQ Try.prog 75 (some ff75) := fun fi h => by cases h; kernel_rfl
theorem g76 : FnQ Try.prog 76 (some ff76) := fun fi h => by cases h; kernel_rfl
theorem g77 : FnQ Try.prog 77 (some ff77) := fun fi h => by cases h; kernel_rfl
theorem g78 : FnQ Try.prog 78 (some ff78) := fun fi h => by cases h; kernel_rfl
theorem g79 : FnQ Try.prog 79 (some ff79) := fun fi h => by cases h; kernel_rfl
theorem g80 : FnQ Try.prog 80 (some ff80) := fun fi h => by cases h; kernel_rfl
theorem g81 : FnQ Try.prog 81 (some ff81) := fun fi h => by cases h; kernel_rfl
theorem g82 : FnQ Try.prog 82 (some ff82) := fun fi h => by cases h; kernel_rfl
theorem g83 : FnQ Try.prog 83 (some ff83) := fun fi h => by cases h; kernel_rfl
theorem g84 : FnQ Try.prog 84 (some ff84) := fun fi h => by cases h; kernel_rfl
theorem g85 : FnQ Try.prog 85 (some ff85) := fun fi h => by cases h; kernel_rfl
theorem g86 : FnQ Try.prog 86 (some ff86) := fun fi h => by cases h; kernel_rfl
theorem g87 : FnQ Try.prog 87 (some ff87) := fun fi h => by cases h; kernel_rfl
theorem g88 : FnQ Try.prog 88 (some ff88) := fun fi h => by cases h; kernel_rfl
theorem g89 : FnQ Try.prog 89 (some ff89) := fun fi h => by cases h; kernel_rfl
theorem g90 : FnQ Try.prog 90 (some ff90) := fun fi h => by cases h; kernel_rfl
theorem g91 : FnQ Try.prog 91 (some ff91) := fun fi h => by cases h; kernel_rfl
theorem g92 : FnQ Try.prog 92 (some ff92) := fun fi h => by cases h; kernel_rfl
theorem g93 : FnQ Try.prog 93 (some ff93) := fun fi h => by cases h; kernel_rfl
theorem g94 : FnQ Try.prog 94 (some ff94) := fun fi h => by cases h; kernel_rfl
theorem g95 : FnQ Try.prog 95 (some ff95) := fun fi h => by cases h; kernel_rfl
theorem g96 : FnQ Try.prog 96 (some ff96) := fun fi h => by cases h; kernel_rfl
theorem g97 : FnQ Try.prog 97 (some ff97) := fun fi h => by cases h; kernel_rfl
theorem g98 : FnQ Try.prog 98 (some ff98) := fun fi h => by cases h; kernel_rfl
theorem g99 : FnQ Try.prog 99 (some ff99) := fun fi h => by cases h; kernel_rfl
theorem g100 : FnQ Try.prog 100 (some ff100) := fun fi h => by cases h; kernel_rfl
theorem g101 : FnQ Try.prog 101 (some ff101) := fun fi h => by cases h; kernel_rfl
theorem g102 : FnQ Try.prog 102 (some ff102) := fun fi h => by cases h; kernel_rfl
theorem g103 : FnQ Try.prog 103 (some ff103) := fun fi h => by cases h; kernel_rfl
theorem g104 : FnQ Try.prog 104 (some ff104) := fun fi h => by cases h; kernel_rfl
theorem g105 : FnQ Try.prog 105 (some ff105) := fun fi h => by cases h; kernel_rfl
theorem g106 : FnQ Try.prog 106 (some ff106) := fun fi h => by cases h; kernel_rfl
theorem g107 : FnQ Try.prog 107 (some ff107) := fun fi h => by cases h; kernel_rfl
theorem g108 : FnQ Try.prog 108 (some ff108) := fun fi h => by cases h; kernel_rfl
theorem g109 : FnQ Try.prog 109 (some ff109) := fun fi h => by cases h; kernel_rfl
theorem g110 : FnQ Try.prog 110 (some ff110) := fun fi h => by cases h; kernel_rfl
theorem g111 : FnQ Try.prog 111 (some ff111) := fun fi h => by cases h; kernel_rfl
theorem g112 : FnQ Try.prog 112 (some ff112) := fun fi h => by cases h; kernel_rfl
theorem g113 : FnQ Try.prog 113 (some ff113) := fun fi h => by cases h; kernel_rfl
theorem g114 : FnQ Try.prog 114 (some ff114) := fun fi h => by cases h; kernel_rfl
theorem g115 : FnQ Try.prog 115 (some ff115) := fun fi h => by cases h; kernel_rfl
theorem g116 : FnQ Try.prog 116 (some ff116) := fun fi h => by cases h; kernel_rfl
theorem g117 : FnQ Try.prog 117 (some ff117) := fun fi h => by cases h; kernel_rfl
theorem g118 : FnQ Try.prog 118 (some ff118) := fun fi h => by cases h; kernel_rfl
theorem g119 : FnQ Try.prog 119 (some ff119) := fun fi h => by cases h; kernel_rfl
theorem g120 : FnQ Try.prog 120 (some ff120) := fun fi h => by cases h; kernel_rfl
theorem g121 : FnQ Try.prog 121 (some ff121) := fun fi h => by cases h; kernel_rfl
theorem n1 (b : Nat) : TyQ Try.prog b none := fun _ h => by cases h
theorem n2 (b : Nat) : FnQ Try.prog b none := fun _ h => by cases h
theorem tyA : AllT (TyQ Try.prog) 8 0 1 ty := ⟨⟨⟨⟨⟨⟨⟨⟨q0, q128⟩, ⟨q64, (n1 _)⟩⟩, ⟨trivial, ⟨q96, (n1 _)⟩⟩⟩, ⟨⟨⟨q16, q144⟩, ⟨q80, (n1 _)⟩⟩, ⟨⟨q48, (n1 _)⟩, ⟨q112, (n1 _)⟩⟩⟩⟩, ⟨⟨⟨⟨q8, q136⟩, ⟨q72, (n1 _)⟩⟩, ⟨⟨q40, (n1 _)⟩, trivial⟩⟩, ⟨⟨⟨q24, (n1 _)⟩, ⟨q88, (n1 _)⟩⟩, ⟨⟨q56, (n1 _)⟩, ⟨q120, (n1 _)⟩⟩⟩⟩⟩, ⟨⟨⟨⟨⟨q4, q132⟩, ⟨q68, (n1 _)⟩⟩, ⟨⟨q36, (n1 _)⟩, ⟨q100, (n1 _)⟩⟩⟩, ⟨⟨⟨q20, q148⟩, ⟨q84, (n1 _)⟩⟩, ⟨⟨q52, (n1 _)⟩, ⟨q116, (n1 _)⟩⟩⟩⟩, ⟨⟨⟨⟨q12, q140⟩, ⟨q76, (n1 _)⟩⟩, ⟨⟨q44, (n1 _)⟩, ⟨q108, (n1 _)⟩⟩⟩, ⟨⟨⟨q28, (n1 _)⟩, ⟨q92, (n1 _)⟩⟩, ⟨⟨q60, (n1 _)⟩, ⟨q124, (n1 _)⟩⟩⟩⟩⟩⟩, ⟨⟨⟨⟨⟨⟨q2, q130⟩, ⟨q66, (n1 _)⟩⟩, ⟨⟨q34, (n1 _)⟩, ⟨q98, (n1 _)⟩⟩⟩, ⟨⟨⟨q18, q146⟩, ⟨q82, (n1 _)⟩⟩, ⟨trivial, ⟨q114, (n1 _)⟩⟩⟩⟩, ⟨⟨⟨⟨q10, q138⟩, ⟨q74, (n1 _)⟩⟩, ⟨⟨q42, (n1 _)⟩, ⟨q106, (n1 _)⟩⟩⟩, ⟨⟨⟨q26, (n1 _)⟩, ⟨q90, (n1 _)⟩⟩, ⟨⟨q58, (n1 _)⟩, ⟨q122, (n1 _)⟩⟩⟩⟩⟩, ⟨⟨⟨⟨⟨q6, q134⟩, ⟨q70, (n1 _)⟩⟩, ⟨⟨q38, (n1 _)⟩, ⟨q102, (n1 _)⟩⟩⟩, ⟨⟨⟨q22, q150⟩, ⟨q86, (n1 _)⟩⟩, ⟨⟨q54, (n1 _)⟩, trivial⟩⟩⟩, ⟨⟨⟨⟨q14, q142⟩, ⟨q78, (n1 _)⟩⟩, ⟨⟨q46, (n1 _)⟩, ⟨q110, (n1 _)⟩⟩⟩, ⟨⟨trivial, ⟨q94, (n1 _)⟩⟩, ⟨⟨q62, (n1 _)⟩, ⟨q126, (n1 _)⟩⟩⟩⟩⟩⟩⟩, ⟨⟨⟨⟨⟨⟨⟨q1, q129⟩, trivial⟩, ⟨⟨q33, (n1 _)⟩, ⟨q97, (n1 _)⟩⟩⟩, ⟨⟨⟨q17, q145⟩, ⟨q81, (n1 _)⟩⟩, ⟨⟨q49, (n1 _)⟩, ⟨q113, (n1 _)⟩⟩⟩⟩, ⟨⟨⟨⟨q9, q137⟩, ⟨q73, (n1 _)⟩⟩, ⟨⟨q41, (n1 _)⟩, ⟨q105, (n1 _)⟩⟩⟩, ⟨⟨⟨q25, (n1 _)⟩, ⟨q89, (n1 _)⟩⟩, ⟨⟨q57, (n1 _)⟩, ⟨q121, (n1 _)⟩⟩⟩⟩⟩, ⟨⟨⟨⟨⟨q5, q133⟩, trivial⟩, ⟨trivial, ⟨q101, (n1 _)⟩⟩⟩, ⟨⟨⟨q21, q149⟩, ⟨q85, (n1 _)⟩⟩, ⟨⟨q53, (n1 _)⟩, ⟨q117, (n1 _)⟩⟩⟩⟩, ⟨⟨⟨⟨q13, q141⟩, ⟨q77, (n1 _)⟩⟩, ⟨⟨q45, (n1 _)⟩, ⟨q109, (n1 _)⟩⟩⟩, ⟨⟨⟨q29, (n1 _)⟩, ⟨q93, (n1 _)⟩⟩, ⟨⟨q61, (n1 _)⟩, ⟨q125, (n1 _)⟩⟩⟩⟩⟩⟩, ⟨⟨⟨⟨⟨⟨q3, q131⟩, ⟨q67, (n1 _)⟩⟩, ⟨⟨q35, (n1 _)⟩, ⟨q99, (n1 _)⟩⟩⟩, ⟨⟨⟨q19, q147⟩, ⟨q83, (n1 _)⟩⟩, ⟨⟨q51, (n1 _)⟩, ⟨q115, (n1 _)⟩⟩⟩⟩, ⟨⟨⟨⟨q11, q139⟩, ⟨q75, (n1 _)⟩⟩, ⟨trivial, ⟨q107, (n1 _)⟩⟩⟩, ⟨⟨⟨q27, (n1 _)⟩, ⟨q91, (n1 _)⟩⟩, ⟨⟨q59, (n1 _)⟩, ⟨q123, (n1 _)⟩⟩⟩⟩⟩, ⟨⟨⟨⟨⟨q7, (n1 _)⟩, trivial⟩, ⟨⟨q39, (n1 _)⟩, ⟨q103, (n1 _)⟩⟩⟩, ⟨⟨⟨q23, q151⟩, ⟨q87, (n1 _)⟩⟩, ⟨⟨q55, (n1 _)⟩, ⟨q119, (n1 _)⟩⟩⟩⟩, ⟨⟨⟨⟨q15, q143⟩, ⟨q79, (n1 _)⟩⟩, ⟨⟨q47, (n1 _)⟩, ⟨q111, (n1 _)⟩⟩⟩, ⟨⟨⟨q31, (n1 _)⟩, ⟨q95, (n1 _)⟩⟩, ⟨⟨q63, (n1 _)⟩, ⟨q127, (n1 _)⟩⟩⟩⟩⟩⟩⟩⟩
theorem fnA : AllT (FnQ Try.prog) 7 0 1 fn := ⟨⟨⟨⟨⟨⟨⟨(n2 _), g64⟩, ⟨g32, g96⟩⟩, ⟨⟨g16, g80⟩, ⟨g48, g112⟩⟩⟩, ⟨⟨⟨g8, g72⟩, ⟨g40, g104⟩⟩, ⟨⟨g24, g88⟩, ⟨g56, g120⟩⟩⟩⟩, ⟨⟨⟨⟨g4, g68⟩, ⟨g36, g100⟩⟩, ⟨⟨g20, g84⟩, ⟨g52, g116⟩⟩⟩, ⟨⟨⟨g12, g76⟩, ⟨g44, g108⟩⟩, ⟨⟨g28, g92⟩, ⟨g60, (n2 _)⟩⟩⟩⟩⟩, ⟨⟨⟨⟨⟨g2, g66⟩, ⟨g34, g98⟩⟩, ⟨⟨g18, g82⟩, ⟨g50, g114⟩⟩⟩, ⟨⟨⟨g10, g74⟩, ⟨g42, g106⟩⟩, ⟨⟨g26, g90⟩, ⟨g58, (n2 _)⟩⟩⟩⟩, ⟨⟨⟨⟨g6, g70⟩, ⟨g38, g102⟩⟩, ⟨⟨g22, g86⟩, ⟨g54, g118⟩⟩⟩, ⟨⟨⟨g14, g78⟩, ⟨g46, g110⟩⟩, ⟨⟨g30, g94⟩, ⟨g62, (n2 _)⟩⟩⟩⟩⟩⟩, ⟨⟨⟨⟨⟨⟨(n2 _), g65⟩, ⟨g33, g97⟩⟩, ⟨⟨g17, g81⟩, ⟨g49, g113⟩⟩⟩, ⟨⟨⟨g9, g73⟩, ⟨g41, g105⟩⟩, ⟨⟨g25, g89⟩, ⟨g57, g121⟩⟩⟩⟩, ⟨⟨⟨⟨g5, g69⟩, ⟨g37, g101⟩⟩, ⟨⟨g21, g85⟩, ⟨g53, g117⟩⟩⟩, ⟨⟨⟨g13, g77⟩, ⟨g45, g109⟩⟩, ⟨⟨g29, g93⟩, ⟨g61, (n2 _)⟩⟩⟩⟩⟩, ⟨⟨⟨⟨⟨g3, g67⟩, ⟨g35, g99⟩⟩, ⟨⟨g19, g83⟩, ⟨g51, g115⟩⟩⟩, ⟨⟨⟨g11, g75⟩, ⟨g43, g107⟩⟩, ⟨⟨g27, g91⟩, ⟨g59, (n2 _)⟩⟩⟩⟩, ⟨⟨⟨⟨g7, g71⟩, ⟨g39, g103⟩⟩, ⟨⟨g23, g87⟩, ⟨g55, g119⟩⟩⟩, ⟨⟨⟨g15, g79⟩, ⟨g47, g111⟩⟩, ⟨⟨g31, g95⟩, ⟨g63, (n2 _)⟩⟩⟩⟩⟩⟩⟩
theorem xs : ∀ g, ExtQ Try.prog g (ext g) := fun _ => trivial
theorem ok : Ok Try.prog pr := ok_of tyA fnA rfl rfl (by kernel_rfl) xs
theorem lb : LibOk Try.prog pr := lib_none fun _ => rfl
end Go.Proofs.Ytmgkeeefbfefgaa.Pt
end
section
namespace Go.Proofs.Ytmgkeeefbfefgaa
open Go Go.Proofs Go.Eng Go.Run Tab
set_option maxRecDepth 100000
set_option linter.unusedSimpArgs false
set_option linter.unusedVariables false
set_option linter.defProp false
set_option maxHeartbeats 1000000
set_option linter.defProp false
def M4Fs53 := (And.intro (And.intro (And.intro @agg101 @agg97) (And.intro @fo99_1 @inf101)) (And.intro (And.intro @inf97 @sz101) (And.intro @sz97 (And.intro @zero101 @Try.underlying102))))
def M4Fs85 := (And.intro (And.intro (And.intro (And.intro @agg102 @agg22) (And.intro @agg3 (And.intro @by58 @fo24_2))) (And.intro (And.intro @fo58_0 (And.intro @fo58_1 @fo99_0)) (And.intro @fps101_0 (And.intro @fps101_1 @fps101_2)))) (And.intro (And.intro (And.intro @inf102 (And.intro @inf22 @inf3)) (And.intro @inf58 (And.intro @okf101 @sz102))) (And.intro (And.intro @sz22 (And.intro @sz3 @sz58)) (And.intro @zero101 (And.intro @zero102 @Try.underlying22)))))
theorem build_arrT {P : Program} {t el : TypeId} {n s : Nat} {z : Value} (hu : P.underlying t = some (.array n el)) (hi : (P.info? el).isSome = true) (hs : szT P el = s) (hz : zeroT P t = some z) {xs : Array (Nat × Operand)} {ty : TypeId} {er : Eng.Env} {h : Eng.Heap} {r : List Value} {K : Value → Eng.Heap → Prop} (hf : fillL (fun i => some (i * s, s)) z.cells.toList (xs.map fun (i, x) => (i, ev er x)).toList = some r) (H : K (.agg r.toArray) h) : opSem P (.build t xs) ty er h K := by
  obtain ⟨inf, hinf⟩ := Option.isSome_iff_exists.1 hi
  have hsz : inf.size = s := by simpa [szT, hinf] using hs
  have q3 := fillL_eq _ _ _ hf
  refine opSem_pure rfl _ H fun w _ => ?_
  have hz' : (zeroValue t).run P w = .ok z w := by
    unfold zeroT at hz
    cases hi : P.info? t with
    | none => simp [hi] at hz
    | some i => simp only [hi, Option.bind_some] at hz; simp [zeroValue, typeInfo, hi, hz]
  simp only [execOp, Instr.build, Sem.run_bind, hz', Result.andThen_ok, run_underlying hu]
  simp only [Array.toList_map] at q3
  simp [sizeOf, typeInfo, hinf, hsz, q3]
theorem opQS_build {P : Program} {t el : TypeId} {n s : Nat} {z : Value} (hu : P.underlying t = some (.array n el)) (hi : (P.info? el).isSome = true) (hs : szT P el = s) (hz : zeroT P t = some z) {xs : Array (Nat × Operand)} {ty : TypeId} {er : Eng.Env} {h : Eng.Heap} {r : List Value} {K : Value → Eng.Heap → Prop} (hf : fillL (fun i => some (i * s, s)) z.cells.toList (xs.map fun (i, x) => (i, ev er x)).toList = some r) (H : K (.agg r.toArray) h) : opQS P EqH (.build t xs) ty er h K := by
  unfold opQS
  exact ⟨_, fun h' e => by have e : h' = h := e; subst e; exact build_arrT hu hi hs hz hf ⟨rfl, rfl⟩, H⟩
theorem okf102 : okFields Try.prog 102 = false := by kernel_rfl
theorem spots85 (g b S M : Nat) (a : Option Addr) (n c : Nat) (ws : List Wn) (i : Nat) (d : Int) (h : Eng.Heap) (hg : DeskB h g b S M a n c) (hr : Row h a (wsV ws)) (hn : n = ws.length) (hi : i < ws.length) :
    CallsH Try.prog 85 #[.pointer (some ⟨g, 0, none⟩), .int .i64 i, .int .i64 d] h (fun v h' => v = .agg #[.int .i64 0, .int .i64 (wAt ws i).s, .int .i64 d, .int .i64 1, .int .i64 (wAt ws i).m, .int .i64 d] ∧ Ext h h') := by
  unfold DeskB at hg
  (refine CallsH_of_exec Try.func85 rfl bod85 ?_; simp only [Try.ntmps85, Try.results85, coreS, stK_some, splice, Value.cells, Value.oneCell', Nat.reduceAdd, Nat.reduceSub, Nat.reduceMul, Nat.reduceLeDiff, Int.reduceEq, Nat.reduceEqDiff, M4Fs85])
  have hne : ¬ (g = h.size) := by have := lt_of_get hg; omega
  have hr0 := hr.push (.cells #[.int .i64 0, .int .i64 0, .int .i64 0, .int .i64 0, .int .i64 0, .int .i64 0] 102)
  have fa := faR hr hi
  have c0 := cellW0 hr0 hi
  have c1 := cellW1 hr0 hi
  have hsm := rowW_some hr hi
  refine WP_draw (by kernel_rfl) sta_eq [(0, 0), (1, 0), (2, 0), (3, 0), (4, 0), (5, 0), (6, 0), (7, 0), (8, 0), (9, 0), (10, 0), (11, 0), (12, 0), (13, 0), (14, 0), (15, 0), (16, 0), (17, 0), (18, 0), (19, 0), (20, 0), (21, 0), (22, 0), (23, 1)] (by kernel_rfl) rfl (by kernel_rfl) ?_
  simp only [hne, hg, if_false, fa, c0, c1, hvK_eq, coreS, stK_some, splice, Value.cells, Value.oneCell', Nat.reduceAdd, Nat.reduceSub, Nat.reduceMul, Nat.reduceLeDiff, Int.reduceEq, Nat.reduceEqDiff, drawS, M4Fs85]
  refine ⟨⟨by omega, by omega⟩, hsm, ⟨by omega, by omega⟩, hsm, ?_⟩
  simp only [okf102, bldO_no]
  refine opQS_build Try.underlying102 inf101 sz101 zero102 (r := [.int .i64 0, .int .i64 (wAt ws i).s, .int .i64 d, .int .i64 1, .int .i64 (wAt ws i).m, .int .i64 d]) (by simp [fillL, coreS, stK_some, splice, Value.cells, Value.oneCell', Nat.reduceAdd, Nat.reduceSub, Nat.reduceMul, Nat.reduceLeDiff, Int.reduceEq, Nat.reduceEqDiff, drawS, M4Fs85]) ?_
  simp only [hvK_eq, coreS, stK_some, splice, Value.cells, Value.oneCell', Nat.reduceAdd, Nat.reduceSub, Nat.reduceMul, Nat.reduceLeDiff, Int.reduceEq, Nat.reduceEqDiff, drawS, M4Fs85]
  exact ((Ext.refl h).push _)
abbrev Sk := Nat × Nat × Nat
def kvS (k : Sk) : Value := .agg #[.int .i64 (k.1 : Nat), .int .i64 (k.2.1 : Nat), .int .i64 (k.2.2 : Nat)]
theorem keysS : Keys Try.prog 101 kvS := by
  refine Keys.flat (ki := (Pt.pr.ty 101).getD ⟨0, 0, .any, .other, []⟩) (kf := fun p => .agg [.int .i64 (p.1 : Nat), .int .i64 (p.2.1 : Nat), .int .i64 (p.2.2 : Nat)]) (by rw [Try.underlying101]) (Pt.ok.tf (by kernel_rfl)) (fun p => ?_) (fun p q => ?_)
  · simp only [VR]
    exact ⟨_, rfl, by simpa [Eng.ints] using vl_ints (ι := fun _ => none) [(p.1 : Int), (p.2.1 : Int), (p.2.2 : Int)]⟩
  · have hb := beqF_ints [(p.1 : Int), (p.2.1 : Int), (p.2.2 : Int)] [(q.1 : Int), (q.2.1 : Int), (q.2.2 : Int)] rfl
    have hd : decide ([(p.1 : Int), (p.2.1 : Int), (p.2.2 : Int)] = [(q.1 : Int), (q.2.1 : Int), (q.2.2 : Int)]) = decide (p = q) := by
      rw [decide_eq_decide]
      obtain ⟨a, b, c⟩ := p
      obtain ⟨d, e, f⟩ := q
      simp
      omega
    rw [hd] at hb
    exact hb
theorem idsW_arr {cs : Array Value} {q : IntKind} {n : Int} {m : Nat} {el : TypeId} {h : Eng.Heap} {K : Value → Eng.Heap → Prop} {F : Prop} : idsW (.agg cs) (.int q n) (some (.array m el)) h K F = F := by unfold idsW; rfl
theorem index_arrT {P : Program} {t el : TypeId} {len s : Nat} (hu : P.underlying t = some (.array len el)) (ha : aggT P el = some true) (hi : (P.info? el).isSome = true) (hs : szT P el = s) {x i : Operand} {cs : List Value} {j : Nat} {ty : TypeId} {er : Eng.Env} {h : Eng.Heap} {K : Value → Eng.Heap → Prop} (hx : ev er x = .agg cs.toArray) (hj : ev er i = .int .i64 j) (hl : j < len) (H : K (.agg ((cs.drop (j * s)).take s).toArray) h) : opSem P (.index t x i) ty er h K := by
  obtain ⟨inf, hinf⟩ := Option.isSome_iff_exists.1 hi
  have hsz : inf.size = s := by simpa [szT, hinf] using hs
  obtain ⟨v, h1, h2⟩ := part_sound (P := P) (t := el) (cs := cs.toArray) (off := j * inf.size) (h := h) (K := fun v _ => v = .agg ((cs.drop (j * s)).take s).toArray) (by
    simp only [partW, ha, hi, hsz, hs, List.toList_toArray, true_and])
  subst h1
  refine opSem_pure rfl _ H fun w _ => ?_
  have hr : (0 : Int) ≤ (j : Int) ∧ (j : Int) < len := ⟨by omega, by omega⟩
  simp [execOp, Instr.index, hx, hj, asIntOf, run_underlying hu, hr, sizeOf, typeInfo, hinf, h2]
  intro hh; omega
theorem opQS_get {P : Program} {u kt vt : TypeId} {α : Type} [DecidableEq α] {kv : α → Value} {z : Value} (hu : P.underlying u = some (.map kt vt)) (hz : zeroT P vt = some z) (K : Keys P kt kv) {h : Eng.Heap} {er : Eng.Env} {ty : TypeId} {b c : Nat} {es : List (α × Value × Nat)} (M : MapV kv h b es c) {a : α} {ok : Bool} {x k : Operand} {Q : Value → Eng.Heap → Prop} (hx : ev er x = .map (some b)) (hk : ev er k = kv a)
    (H : Q (if ok then .tuple #[(getA a es).getD z, .bool (getA a es).isSome] else (getA a es).getD z) h) : opQS P EqH (.lookup u x k ok) ty er h Q := by
  unfold opQS
  refine ⟨_, fun h' e => ?_, H⟩
  have e : h' = h := e
  subst e
  exact map_getT hu hz K M hx hk ⟨rfl, rfl⟩
def held (sh mo : Nat → Nat) (L : List (Nat × Nat)) (k : Sk) : Bool := L.any fun x => k == (0, sh x.1, x.2) || k == (1, mo x.1, x.2)
structure Hold (sh mo : Nat → Nat) (es : List (Sk × Value × Nat)) (L : List (Nat × Nat)) : Prop where
  nd : (es.map (·.1)).Nodup
  get : ∀ k, (getA k es).isSome = held sh mo L k
def fits (sh mo : Nat → Nat) (L : List (Nat × Nat)) (i d : Nat) : Bool := !held sh mo L (0, sh i, d) && !held sh mo L (1, mo i, d)
theorem Hold.nil {sh mo : Nat → Nat} : Hold sh mo [] [] := ⟨List.nodup_nil, fun k => rfl⟩
theorem getA_none {k : Sk} {es : List (Sk × Value × Nat)} (h : (getA k es).isSome = false) : getA k es = none := by simpa using h
theorem Hold.add {sh mo : Nat → Nat} {es : List (Sk × Value × Nat)} {L : List (Nat × Nat)} (H : Hold sh mo es L) (i d : Nat) (v : Value) (c c' : Nat) : Hold sh mo (putA (1, mo i, d) v c' (putA (0, sh i, d) v c es)) (L ++ [(i, d)]) := by
  refine ⟨put_nodup (put_nodup H.nd), fun k => ?_⟩
  rw [getA_put, getA_put]
  have := H.get k
  unfold held at this ⊢
  rw [List.any_append, ← this]
  by_cases h1 : k = (1, mo i, d)
  · simp [h1]
  by_cases h0 : k = (0, sh i, d)
  · rw [if_neg h1, if_pos h0]; simp [h0]
  · rw [if_neg h1, if_neg h0]; simp [h0, h1]
theorem hang53 (g b S M : Nat) (a : Option Addr) (n c : Nat) (ws : List Wn) (i d : Nat) (es : List (Sk × Value × Nat)) (c0 : Nat) (L : List (Nat × Nat)) (h : Eng.Heap) (hg : DeskB h g b S M a n c) (hr : Row h a (wsV ws)) (hn : n = ws.length) (V : Vb S M ws) (hi : i < ws.length) (Mp : MapV kvS h b es c0) (H : Hold (shN ws) (moN ws) es L) :
    CallsH Try.prog 53 #[.pointer (some ⟨g, 0, none⟩), .int .i64 i, .int .i64 d] h (fun v h' => v = .bool (fits (shN ws) (moN ws) L i d) ∧ Chg h h' b ∧ ∃ es' c', MapV kvS h' b es' c' ∧ Hold (shN ws) (moN ws) es' (if fits (shN ws) (moN ws) L i d then L ++ [(i, d)] else L)) := by
  have hgb : g ≠ b := fun e => by have h1 := Mp.obj; unfold DeskB at hg; rw [e, h1] at hg; cases hg
  have hs := (V.s hi).1
  have hm := (V.m hi).1
  (refine CallsH_of_exec Try.func53 rfl bod53 ?_; simp only [Try.ntmps53, Try.results53, coreS, stK_some, splice, Value.cells, Value.oneCell', Nat.reduceAdd, Nat.reduceSub, Nat.reduceMul, Nat.reduceLeDiff, Int.reduceEq, Nat.reduceEqDiff, M4Fs53])
  refine CallsH.mono (spots85 g b S M a n c ws i d h hg hr hn hi) ?_
  rintro v h1 ⟨rfl, x1⟩
  rw [hs, hm]
  simp only [coreS, Value.cells, Value.oneCell', Nat.reduceAdd, Nat.reduceSub, Nat.reduceMul, Nat.reduceLeDiff, Int.reduceEq, Nat.reduceEqDiff, M4Fs53]
  refine WP_loopI [6, 8, 9, 10, 17, 18, 19, 20, 21, 22, 23, 24, 25, 26, 27, 28, 29, 30] (fun e h' => Ext h h' ∧ ∃ j : Nat, j ≤ 2 ∧ e 17 = .int .i64 j ∧ (0 < j → getA (0, shN ws i, d) es = none) ∧ (1 < j → getA (1, moN ws i, d) es = none)) (fun e _ => match e 17 with | .int _ q => 2 - q.toNat | _ => 0) ⟨x1, 0, by omega, rfl, by omega, by omega⟩ ?_
  rintro e h' ⟨x, j, hj, he, hn0, hn1⟩
  have hg' : h'[g]? = some (.cells #[.int .i64 S, .int .i64 M, .slice a n c, .map (some b)] 99) := x.get hg
  have Mp' := Mp.ext x
  have rnd : ∀ (k : Sk) (cs : List Value), ((cs = [.int .i64 0, .int .i64 (shN ws i : Nat), .int .i64 (d : Nat)] ∧ k = (0, shN ws i, d)) ∨ (cs = [.int .i64 1, .int .i64 (moN ws i : Nat), .int .i64 (d : Nat)] ∧ k = (1, moN ws i, d))) → Value.agg cs.toArray = kvS k := by
    rintro k cs (⟨rfl, rfl⟩ | ⟨rfl, rfl⟩) <;> rfl
  by_cases hj0 : j = 0
  · subst hj0
    have he : e 17 = .int .i64 0 := he
    simp only [he, idsW_arr, show ((0 : Int) < 2) by omega, decide_true, coreS, Value.cells, Value.oneCell', Nat.reduceAdd, Nat.reduceSub, Nat.reduceMul, Nat.reduceLeDiff, Int.reduceEq, Nat.reduceEqDiff, M4Fs53]
    refine index_arrT (j := 0) Try.underlying102 agg101 inf101 sz101 rfl rfl (by omega) ?_
    simp only [List.drop, List.take, stK_some, splice, coreS, stK_some, splice, Value.cells, Value.oneCell', Nat.reduceAdd, Nat.reduceSub, Nat.reduceMul, Nat.reduceLeDiff, Int.reduceEq, Nat.reduceEqDiff, M4Fs53]
    have hgl := lt_of_get hg'
    have y := x.push (.cells #[.int .i64 0, .int .i64 (shN ws i : Nat), .int .i64 (d : Nat)] 101)
    have hgn : ¬ (g = h'.size) := by omega
    refine WP_draw (by kernel_rfl) sta_eq [(0, 0), (1, 0), (2, 0), (3, 0), (4, 0), (5, 0), (6, 0), (7, 0), (8, 0), (9, 0), (10, 0)] (by kernel_rfl) rfl (by kernel_rfl) ?_
    simp only [hg', hgn, if_false, hvK_eq, coreS, Value.cells, Value.oneCell', Nat.reduceAdd, Nat.reduceSub, Nat.reduceMul, Nat.reduceLeDiff, Int.reduceEq, Nat.reduceEqDiff, drawS, M4Fs53]
    refine opQS_get Try.underlying97 zero3 keysS (Mp'.ext ((Ext.refl h').push _)) (a := (0, shN ws i, d)) rfl rfl ?_
    simp only [if_true, hvK_eq, coreS, Value.cells, Value.oneCell', Nat.reduceAdd, Nat.reduceSub, Nat.reduceMul, Nat.reduceLeDiff, Int.reduceEq, Nat.reduceEqDiff, drawS, M4Fs53]
    cases hq : (getA (0, shN ws i, d) es).isSome with
    | true =>
      have hf : fits (shN ws) (moN ws) L i d = false := by unfold fits; rw [← H.get, ← H.get, hq]; simp
      simp only [hf, coreS, Value.cells, Value.oneCell', Nat.reduceAdd, Nat.reduceSub, Nat.reduceMul, Nat.reduceLeDiff, Int.reduceEq, Nat.reduceEqDiff, M4Fs53]
      exact ⟨Chg.of_ext y b, es, c0, Mp.ext y, by simpa using H⟩
    | false =>
      simp only [coreS, Value.cells, Value.oneCell', Nat.reduceAdd, Nat.reduceSub, Nat.reduceMul, Nat.reduceLeDiff, Int.reduceEq, Nat.reduceEqDiff, M4Fs53]
      refine ⟨by rw [inK_i64]; omega, roundK_mk (by kernel_rfl) ⟨y, 1, by omega, rfl, fun _ => getA_none hq, fun hh => absurd hh (by omega)⟩ ?_⟩
      show 2 - (0 + 1 : Int).toNat < 2 - (0 : Int).toNat
      omega
  by_cases hj1 : j = 1
  · subst hj1
    have he : e 17 = .int .i64 1 := he
    simp only [he, idsW_arr, show ((1 : Int) < 2) by omega, decide_true, coreS, Value.cells, Value.oneCell', Nat.reduceAdd, Nat.reduceSub, Nat.reduceMul, Nat.reduceLeDiff, Int.reduceEq, Nat.reduceEqDiff, M4Fs53]
    refine index_arrT (j := 1) Try.underlying102 agg101 inf101 sz101 rfl rfl (by omega) ?_
    simp only [List.drop, List.take, stK_some, splice, coreS, stK_some, splice, Value.cells, Value.oneCell', Nat.reduceAdd, Nat.reduceSub, Nat.reduceMul, Nat.reduceLeDiff, Int.reduceEq, Nat.reduceEqDiff, M4Fs53]
    have hgl := lt_of_get hg'
    have y := x.push (.cells #[.int .i64 1, .int .i64 (moN ws i : Nat), .int .i64 (d : Nat)] 101)
    have hgn : ¬ (g = h'.size) := by omega
    refine WP_draw (by kernel_rfl) sta_eq [(0, 0), (1, 0), (2, 0), (3, 0), (4, 0), (5, 0), (6, 0), (7, 0), (8, 0), (9, 0), (10, 0)] (by kernel_rfl) rfl (by kernel_rfl) ?_
    simp only [hg', hgn, if_false, hvK_eq, coreS, Value.cells, Value.oneCell', Nat.reduceAdd, Nat.reduceSub, Nat.reduceMul, Nat.reduceLeDiff, Int.reduceEq, Nat.reduceEqDiff, drawS, M4Fs53]
    refine opQS_get Try.underlying97 zero3 keysS (Mp'.ext ((Ext.refl h').push _)) (a := (1, moN ws i, d)) rfl rfl ?_
    simp only [if_true, hvK_eq, coreS, Value.cells, Value.oneCell', Nat.reduceAdd, Nat.reduceSub, Nat.reduceMul, Nat.reduceLeDiff, Int.reduceEq, Nat.reduceEqDiff, drawS, M4Fs53]
    cases hq : (getA (1, moN ws i, d) es).isSome with
    | true =>
      have hf : fits (shN ws) (moN ws) L i d = false := by unfold fits; rw [← H.get, ← H.get, hq]; simp
      simp only [hf, coreS, Value.cells, Value.oneCell', Nat.reduceAdd, Nat.reduceSub, Nat.reduceMul, Nat.reduceLeDiff, Int.reduceEq, Nat.reduceEqDiff, M4Fs53]
      exact ⟨Chg.of_ext y b, es, c0, Mp.ext y, by simpa using H⟩
    | false =>
      simp only [coreS, Value.cells, Value.oneCell', Nat.reduceAdd, Nat.reduceSub, Nat.reduceMul, Nat.reduceLeDiff, Int.reduceEq, Nat.reduceEqDiff, M4Fs53]
      refine ⟨by rw [inK_i64]; omega, roundK_mk (by kernel_rfl) ⟨y, 2, by omega, rfl, fun _ => hn0 (by omega), fun _ => getA_none hq⟩ ?_⟩
      show 2 - (1 + 1 : Int).toNat < 2 - (1 : Int).toNat
      omega
  obtain rfl : j = 2 := by omega
  have he : e 17 = .int .i64 2 := he
  simp only [he, show ¬ ((2 : Int) < 2) by omega, decide_false, coreS, Value.cells, Value.oneCell', Nat.reduceAdd, Nat.reduceSub, Nat.reduceMul, Nat.reduceLeDiff, Int.reduceEq, Nat.reduceEqDiff, M4Fs53]
  have k0 := hn0 (by omega)
  have k1 := hn1 (by omega)
  have hf : fits (shN ws) (moN ws) L i d = true := by unfold fits; rw [← H.get, ← H.get, k0, k1]; rfl
  rw [hf]
  refine CallsH.mono (spots85 g b S M a n c ws i d h' hg' (hr.ext x) hn hi) ?_
  rintro v h2 ⟨rfl, x2⟩
  rw [hs, hm]
  simp only [coreS, Value.cells, Value.oneCell', Nat.reduceAdd, Nat.reduceSub, Nat.reduceMul, Nat.reduceLeDiff, Int.reduceEq, Nat.reduceEqDiff, M4Fs53]
  have Mp2 := Mp'.ext x2
  have hg2 := x2.get hg'
  have y2 := x.trans x2
  clear x x2 hg' Mp' Mp hg he rnd
  refine WP_loopI [12, 35, 36, 37, 38, 39, 40, 41, 42, 43, 44] (fun e h' => Chg h h' b ∧ h'[g]? = some (.cells #[.int .i64 S, .int .i64 M, .slice a n c, .map (some b)] 99) ∧ ((e 35 = .int .i64 0 ∧ MapV kvS h' b es c0) ∨ (e 35 = .int .i64 1 ∧ ∃ c1, MapV kvS h' b (putA (0, shN ws i, d) (.int .i64 i) c0 es) c1) ∨ (e 35 = .int .i64 2 ∧ ∃ c1 c2, MapV kvS h' b (putA (1, moN ws i, d) (.int .i64 i) c1 (putA (0, shN ws i, d) (.int .i64 i) c0 es)) c2))) (fun e _ => match e 35 with | .int _ q => 2 - q.toNat | _ => 0) ⟨Chg.of_ext y2 b, hg2, .inl ⟨rfl, Mp2⟩⟩ ?_
  rintro e h3 ⟨ch, hg3, ⟨he, M3⟩ | ⟨he, c1, M3⟩ | ⟨he, c1, c2, M3⟩⟩
  · simp only [he, idsW_arr, show ((0 : Int) < 2) by omega, decide_true, coreS, Value.cells, Value.oneCell', Nat.reduceAdd, Nat.reduceSub, Nat.reduceMul, Nat.reduceLeDiff, Int.reduceEq, Nat.reduceEqDiff, M4Fs53]
    refine index_arrT (j := 0) Try.underlying102 agg101 inf101 sz101 rfl rfl (by omega) ?_
    simp only [List.drop, List.take, stK_some, splice, coreS, stK_some, splice, Value.cells, Value.oneCell', Nat.reduceAdd, Nat.reduceSub, Nat.reduceMul, Nat.reduceLeDiff, Int.reduceEq, Nat.reduceEqDiff, M4Fs53]
    have hgl := lt_of_get hg3
    have hgn : ¬ (g = h3.size) := by omega
    refine WP_draw (by kernel_rfl) sta_eq [(0, 0), (1, 0), (2, 0), (3, 0), (4, 0), (5, 0), (6, 1)] (by kernel_rfl) rfl (by kernel_rfl) ?_
    simp only [hg3, hgn, if_false, hvK_eq, coreS, Value.cells, Value.oneCell', Nat.reduceAdd, Nat.reduceSub, Nat.reduceMul, Nat.reduceLeDiff, Int.reduceEq, Nat.reduceEqDiff, drawS, M4Fs53]
    refine map_putT Try.underlying97 keysS (M3.ext ((Ext.refl h3).push _)) (a := (0, shN ws i, d)) (v := .int .i64 i) rfl rfl rfl fun h4 M4 u4 => ?_
    simp only [hvK_eq, coreS, Value.cells, Value.oneCell', Nat.reduceAdd, Nat.reduceSub, Nat.reduceMul, Nat.reduceLeDiff, Int.reduceEq, Nat.reduceEqDiff, drawS, M4Fs53]
    refine ⟨by rw [inK_i64]; omega, roundK_mk (by kernel_rfl) ⟨(ch.push _).upd u4, u4.get (push_old hg3) hgb, .inr (.inl ⟨rfl, _, M4⟩)⟩ ?_⟩
    show 2 - (0 + 1 : Int).toNat < 2 - (0 : Int).toNat
    omega
  · simp only [he, idsW_arr, show ((1 : Int) < 2) by omega, decide_true, coreS, Value.cells, Value.oneCell', Nat.reduceAdd, Nat.reduceSub, Nat.reduceMul, Nat.reduceLeDiff, Int.reduceEq, Nat.reduceEqDiff, M4Fs53]
    refine index_arrT (j := 1) Try.underlying102 agg101 inf101 sz101 rfl rfl (by omega) ?_
    simp only [List.drop, List.take, stK_some, splice, coreS, stK_some, splice, Value.cells, Value.oneCell', Nat.reduceAdd, Nat.reduceSub, Nat.reduceMul, Nat.reduceLeDiff, Int.reduceEq, Nat.reduceEqDiff, M4Fs53]
    have hgl := lt_of_get hg3
    have hgn : ¬ (g = h3.size) := by omega
    refine WP_draw (by kernel_rfl) sta_eq [(0, 0), (1, 0), (2, 0), (3, 0), (4, 0), (5, 0), (6, 1)] (by kernel_rfl) rfl (by kernel_rfl) ?_
    simp only [hg3, hgn, if_false, hvK_eq, coreS, Value.cells, Value.oneCell', Nat.reduceAdd, Nat.reduceSub, Nat.reduceMul, Nat.reduceLeDiff, Int.reduceEq, Nat.reduceEqDiff, drawS, M4Fs53]
    refine map_putT Try.underlying97 keysS (M3.ext ((Ext.refl h3).push _)) (a := (1, moN ws i, d)) (v := .int .i64 i) rfl rfl rfl fun h4 M4 u4 => ?_
    simp only [hvK_eq, coreS, Value.cells, Value.oneCell', Nat.reduceAdd, Nat.reduceSub, Nat.reduceMul, Nat.reduceLeDiff, Int.reduceEq, Nat.reduceEqDiff, drawS, M4Fs53]
    refine ⟨by rw [inK_i64]; omega, roundK_mk (by kernel_rfl) ⟨(ch.push _).upd u4, u4.get (push_old hg3) hgb, .inr (.inr ⟨rfl, _, _, M4⟩)⟩ ?_⟩
    show 2 - (1 + 1 : Int).toNat < 2 - (1 : Int).toNat
    omega
  · simp only [he, show ¬ ((2 : Int) < 2) by omega, decide_false, coreS, Value.cells, Value.oneCell', Nat.reduceAdd, Nat.reduceSub, Nat.reduceMul, Nat.reduceLeDiff, Int.reduceEq, Nat.reduceEqDiff, M4Fs53]
    exact ⟨ch, _, _, M3, H.add i d _ _ _⟩
end Go.Proofs.Ytmgkeeefbfefgaa
end
section
namespace Go.Proofs
open Go.Shelf
def Try.lays189_ren : Go.Shelf.Ren := ⟨fun | 189 => 73 | 125 => 94 | 257 => 93 | 128 => 110 | 129 => 111 | 294 => 101 | 295 => 102 | 296 => 103 | 297 => 104 | 298 => 105 | 299 => 106 | 216 => 107 | 300 => 108 | 301 => 109 | 328 => 114 | 329 => 115 | 330 => 116 | 331 => 117 | 332 => 118 | 215 => 119 | 343 => 121 | n => n, fun | 28 => 25 | 3 => 3 | 46 => 111 | 0 => 0 | 51 => 123 | 53 => 125 | 4 => 4 | 183 => 118 | 182 => 117 | 131 => 104 | 5 => 5 | 9 => 9 | 218 => 128 | 222 => 132 | 228 => 134 | 229 => 135 | n => n, fun | n => n⟩
theorem Try.lays189 : Go.Proofs.Lays.n189 Try.prog Try.lays189_ren := {
  mixed := by kernel_rfl
  f125 := Try.func94.trans (congrArg some (by kernel_rfl))
  f128 := Try.func110.trans (congrArg some (by kernel_rfl))
  f129 := Try.func111.trans (congrArg some (by kernel_rfl))
  f189 := Try.func73.trans (congrArg some (by kernel_rfl))
  f215 := Try.func119.trans (congrArg some (by kernel_rfl))
  f216 := Try.func107.trans (congrArg some (by kernel_rfl))
  f257 := Try.func93.trans (congrArg some (by kernel_rfl))
  f294 := Try.func101.trans (congrArg some (by kernel_rfl))
  f295 := Try.func102.trans (congrArg some (by kernel_rfl))
  f296 := Try.func103.trans (congrArg some (by kernel_rfl))
  f297 := Try.func104.trans (congrArg some (by kernel_rfl))
  f298 := Try.func105.trans (congrArg some (by kernel_rfl))
  f299 := Try.func106.trans (congrArg some (by kernel_rfl))
  f300 := Try.func108.trans (congrArg some (by kernel_rfl))
  f301 := Try.func109.trans (congrArg some (by kernel_rfl))
  f328 := Try.func114.trans (congrArg some (by kernel_rfl))
  f329 := Try.func115.trans (congrArg some (by kernel_rfl))
  f330 := Try.func116.trans (congrArg some (by kernel_rfl))
  f331 := Try.func117.trans (congrArg some (by kernel_rfl))
  f332 := Try.func118.trans (congrArg some (by kernel_rfl))
  f343 := Try.func121.trans (congrArg some (by kernel_rfl))
  t0 := Try.underlying0
  a0 := Try.isAgg0
  z0 := Try.sizeOf0
  v0 := Try.zeroValue0
  t3 := Try.underlying3
  a3 := Try.isAgg3
  z3 := Try.sizeOf3
  v3 := Try.zeroValue3
  t4 := Try.underlying4
  a4 := Try.isAgg4
  z4 := Try.sizeOf4
  v4 := Try.zeroValue4
  t5 := Try.underlying5
  a5 := Try.isAgg5
  z5 := Try.sizeOf5
  v5 := Try.zeroValue5
  t9 := Try.underlying9
  a9 := Try.isAgg9
  z9 := Try.sizeOf9
  v9 := Try.zeroValue9
  t28 := Try.underlying25
  a28 := Try.isAgg25
  z28 := Try.sizeOf25
  v28 := Try.zeroValue25
  t46 := Try.underlying111
  a46 := Try.isAgg111
  z46 := Try.sizeOf111
  v46 := Try.zeroValue111
  t51 := Try.underlying123
  a51 := Try.isAgg123
  z51 := Try.sizeOf123
  v51 := Try.zeroValue123
  t53 := Try.underlying125
  a53 := Try.isAgg125
  z53 := Try.sizeOf125
  v53 := Try.zeroValue125
  t131 := Try.underlying104
  a131 := Try.isAgg104
  z131 := Try.sizeOf104
  v131 := Try.zeroValue104
  t182 := Try.underlying117
  a182 := Try.isAgg117
  z182 := Try.sizeOf117
  v182 := Try.zeroValue117
  t183 := Try.underlying118
  a183 := Try.isAgg118
  z183 := Try.sizeOf118
  v183 := Try.zeroValue118
  t218 := Try.underlying128
  a218 := Try.isAgg128
  z218 := Try.sizeOf128
  v218 := Try.zeroValue128
  t222 := Try.underlying132
  a222 := Try.isAgg132
  z222 := Try.sizeOf132
  v222 := Try.zeroValue132
  t228 := Try.underlying134
  a228 := Try.isAgg134
  z228 := Try.sizeOf134
  v228 := Try.zeroValue134
  t229 := Try.underlying135
  a229 := Try.isAgg135
  z229 := Try.sizeOf135
  v229 := Try.zeroValue135 }
def Try.lays20_ren : Go.Shelf.Ren := ⟨fun | 20 => 56 | n => n, fun | 22 => 25 | 3 => 3 | 4 => 4 | 0 => 0 | n => n, fun | n => n⟩
theorem Try.lays20 : Go.Proofs.Lays2.n20 Try.prog Try.lays20_ren := {
  mixed := by kernel_rfl
  f20 := Try.func56.trans (congrArg some (by kernel_rfl))
  t0 := Try.underlying0
  a0 := Try.isAgg0
  z0 := Try.sizeOf0
  v0 := Try.zeroValue0
  t3 := Try.underlying3
  a3 := Try.isAgg3
  z3 := Try.sizeOf3
  v3 := Try.zeroValue3
  t4 := Try.underlying4
  a4 := Try.isAgg4
  z4 := Try.sizeOf4
  v4 := Try.zeroValue4
  t22 := Try.underlying25
  a22 := Try.isAgg25
  z22 := Try.sizeOf25
  v22 := Try.zeroValue25
  i3 := by kernel_rfl }
end Go.Proofs
end
section
set_option linter.unusedVariables false
set_option linter.unusedSimpArgs false
namespace Go.Eng
open Go
section yields
variable {P : Program} {l : Option Nat} {h : Heap} {e : Env} {d : List Deferred} {k : Cont}
def CallY (P : Program) (v : Value) (vs : List Value) (h : Heap) (K : Value → Heap → Prop) : Prop :=
  ∀ (er : Env) (f : Operand) (xs : Array Operand) (ats : Array TypeId) (ty : TypeId), ev er f = v → (xs.map (ev er)).toList = vs → opSem P (.call ⟨.value f, xs, ats⟩) ty er h K
theorem CallY.run {v : Value} {vs : List Value} {K K' : Value → Heap → Prop} (H : CallY P v vs h K) {er : Env} {f : Operand} {xs : Array Operand} {ats : Array TypeId} {ty : TypeId} (hf : ev er f = v) (hx : (xs.map (ev er)).toList = vs)
    (hk : ∀ v h, K v h → K' v h) : opSem P (.call ⟨.value f, xs, ats⟩) ty er h K' := opSem_mono hk (H er f xs ats ty hf hx)
theorem CallY.run1 {v u : Value} {K K' : Value → Heap → Prop} (H : CallY P v [u] h K) {er : Env} {f x : Operand} {ats : Array TypeId} {ty : TypeId} (hf : ev er f = v) (hx : ev er x = u)
    (hk : ∀ v h, K v h → K' v h) : opSem P (.call ⟨.value f, #[x], ats⟩) ty er h K' := opSem_mono hk (H er f #[x] ats ty hf (by simp [hx]))
theorem callV_yield {lo : Nat} {first caps args : Array Value} {K : Value → Heap → Prop} {F : Prop} : callV P (.func (.yield lo) first caps) args h K F = F := by unfold callV; rfl
theorem yrun_getLoop {w : World} {r : Nat} {rec : Loop} (hr : w.heap[r]? = some (.loop rec)) : (Instr.getLoop r).run P w = .ok rec w := by
  simp [Instr.getLoop, getObj, Sem.run, hr, Result.andThen]
theorem yrun_setLoop {w : World} {r : Nat} {rec : Loop} (hr : w.heap[r]? = some (.loop rec)) (o : Obj) : (setObj r o).run P w = .ok () { w with heap := w.heap.setIfInBounds r o } := by
  simp [setObj, Sem.run, hr]
theorem yrun_yield {w : World} {r : Nat} {rec : Loop} (hr : w.heap[r]? = some (.loop rec)) {args : Array Value} (hs : args.size = rec.params.size) :
    (Instr.yield r args).run P w = .ok (.round r rec.fn ((rec.params.zip args).foldl (fun tmps (x : Tmp × Value) => tmps.setIfInBounds x.1 x.2) rec.tmps) rec.assign rec.body) w := by
  simp [Instr.yield, yrun_getLoop hr, Result.andThen, hs]
theorem yrun_begin {w : World} {r : Nat} {rec : Loop} (hr : w.heap[r]? = some (.loop rec)) (hs : rec.state = .ready) :
    (Instr.beginRound r).run P w = .ok () { w with heap := w.heap.setIfInBounds r (.loop { rec with state := .busy }) } := by
  simp [Instr.beginRound, yrun_getLoop hr, yrun_setLoop hr, Result.andThen, hs]
theorem yrun_end {w : World} {r : Nat} {rec : Loop} (hr : w.heap[r]? = some (.loop rec)) (j : Option Code) :
    (Instr.endRound r j).run P w = .ok (.bool j.isNone) { w with heap := w.heap.setIfInBounds r (.loop { rec with state := if j.isNone then .ready else .done, pending := j }) } := by
  simp [Instr.endRound, yrun_getLoop hr, yrun_setLoop hr, Result.andThen]
theorem yrun_endLoop {w : World} {r : Nat} {rec : Loop} (hr : w.heap[r]? = some (.loop rec)) (hs : rec.state ≠ .busy) :
    (Instr.endLoop r).run P w = .ok rec.pending { w with heap := w.heap.setIfInBounds r (.loop { rec with state := .exhausted }) } := by
  have : (rec.state == LoopState.busy) = false := by cases hst : rec.state <;> first | rfl | exact absurd hst hs
  simp [Instr.endLoop, yrun_getLoop hr, yrun_setLoop hr, Result.andThen, this]
  intro hh; exact absurd hh hs
theorem yfoldl_arr : ∀ (l : List (Tmp × Value)) (a : Array Value), (l.foldl (fun tmps (x : Tmp × Value) => tmps.setIfInBounds x.1 x.2) a).toList = l.foldl (fun er (x : Tmp × Value) => er.set x.1 x.2) a.toList
  | [], a => rfl
  | x :: l, a => by
    simp only [List.foldl_cons]
    rw [yfoldl_arr l]
    simp
theorem yrun_enter {w : World} {fn : FuncId} {tmps : Array Value} {ps : Array Tmp} {a b : Code} : (Instr.enterLoop fn tmps ps a b none).run P w = .ok (w.heap.size + 1, [{ target := .collected w.heap.size, args := #[] }])
    { w with heap := (w.heap.push (.deferred (some []))).push (.loop { state := .ready, pending := none, fn, tmps, params := ps, assign := a, body := b, defers := w.heap.size }) } := by
  simp [Instr.enterLoop, newObj, Sem.run, Result.andThen]
  exact ⟨rfl, rfl, rfl⟩
def binds : List Tmp → List Value → Env → Env
  | p :: ps, v :: vs, e => binds ps vs (e.set p v)
  | _, _, e => e
theorem binds_cons {p : Tmp} {ps : List Tmp} {v : Value} {vs : List Value} {e : Env} : binds (p :: ps) (v :: vs) e = binds ps vs (e.set p v) := eqi rfl
theorem binds_nil {vs : List Value} {e : Env} : binds [] vs e = e := by simp [binds]
theorem binds_eq : ∀ (ps : List Tmp) (vs : List Value) (e : Env), binds ps vs e = (ps.zip vs).foldl (fun er (x : Tmp × Value) => er.set x.1 x.2) e
  | [], vs, e => by simp [binds]
  | p :: ps, [], e => by simp [binds]
  | p :: ps, v :: vs, e => by simp [binds, binds_eq ps vs]
def endY (lo : Nat) (K : Value → Heap → Prop) : Cont := fun x _ _ h => ∃ rec, h[lo]? = some (.loop rec) ∧ match x with
  | .normal => K (.bool true) (h.setIfInBounds lo (.loop { rec with state := .ready, pending := none }))
  | .ret => K (.bool false) (h.setIfInBounds lo (.loop { rec with state := .done, pending := some .ret }))
  | .exit i => K (.bool false) (h.setIfInBounds lo (.loop { rec with state := .done, pending := some (.exit i) }))
  | .goto i => K (.bool false) (h.setIfInBounds lo (.loop { rec with state := .done, pending := some (.goto i) }))
  | _ => False
def asgY (P : Program) (lo : Nat) (body : Code) (K : Value → Heap → Prop) : Cont := fun x e d h => x = .normal ∧ ∃ rec, h[lo]? = some (.loop rec) ∧ rec.state = .ready ∧
  exec (some lo) P body (endY lo K) e d (h.setIfInBounds lo (.loop { rec with state := .busy }))
theorem callY_yield {lo : Nat} {rec : Loop} {vs : List Value} {K : Value → Heap → Prop} (hr : h[lo]? = some (.loop rec)) (hsz : vs.length = rec.params.size)
    (H : exec (some lo) P rec.assign (asgY P lo rec.body K) (binds rec.params.toList vs rec.tmps.toList) [] h) : CallY P (.func (.yield lo) #[] #[]) vs h K := by
  intro er f xs ats ty hf hx
  unfold opSem
  refine And.intro rfl fun w hw => ?_
  subst hw
  have hargs : xs.map (ev er) = vs.toArray := by apply Array.toList_inj.1; simpa using hx
  have hrun : (execOp (ev er) { dst := none, op := .call ⟨.value f, xs, ats⟩, type := ty, pos := "", after := #[], guard := none }).run P w = .ok (.round lo rec.fn ((rec.params.zip vs.toArray).foldl (fun tmps (x : Tmp × Value) => tmps.setIfInBounds x.1 x.2) rec.tmps) rec.assign rec.body) w := by
    have := yrun_yield (P := P) hr (args := vs.toArray) (by simpa using hsz)
    simp only [execOp, resolve, hf, Deferred.ofValue, invoke, Sem.run_bind, Sem.run_pure, Result.andThen_ok, hargs, Array.empty_append, this]
  rw [hrun]
  refine ⟨Eng.Rest.refl w, roundIn_of_wpIn trivial ?_⟩
  have ha := exec_sound _ _ _ _ _ H
  unfold WP at ha
  have ha := ha w rfl
  have htm : (binds rec.params.toList vs rec.tmps.toList).toArray = ((rec.params.zip vs.toArray).foldl (fun tmps (x : Tmp × Value) => tmps.setIfInBounds x.1 x.2) rec.tmps) := by
    apply Array.toList_inj.1
    rw [← Array.foldl_toList, yfoldl_arr, binds_eq]
    simp
  rw [← htm]
  refine wpIn_mono ha ?_
  rintro x1 a1 w1 ⟨⟨hx1, rec1, b1, b2, b3⟩, hr1⟩
  subst hx1
  refine ⟨_, yrun_begin (P := P) b1 b2, ?_⟩
  have hb := exec_sound _ _ _ _ _ b3
  unfold WP at hb
  have hb := hb { w1 with heap := w1.heap.setIfInBounds lo (.loop { rec1 with state := .busy }) } rfl
  rw [toList_act] at hb
  refine wpIn_mono hb ?_
  rintro x2 a2 w2 ⟨⟨rec2, c1, c2⟩, hr2⟩
  have hrest : Eng.Rest w w2 := hr1.trans ⟨hr2.os, hr2.tape, hr2.output⟩
  cases x2 with
  | normal => exact ⟨_, _, yrun_end (P := P) c1 none, _, rfl, c2, hrest.trans ⟨rfl, rfl, rfl⟩⟩
  | ret => exact ⟨_, _, yrun_end (P := P) c1 (some .ret), _, rfl, c2, hrest.trans ⟨rfl, rfl, rfl⟩⟩
  | exit i => exact ⟨_, _, yrun_end (P := P) c1 (some (.exit i)), _, rfl, c2, hrest.trans ⟨rfl, rfl, rfl⟩⟩
  | goto i => exact ⟨_, _, yrun_end (P := P) c1 (some (.goto i)), _, rfl, c2, hrest.trans ⟨rfl, rfl, rfl⟩⟩
  | _ => exact c2.elim
def mkD (r : Nat) : Deferred := { target := .collected r, args := #[] }
def endF (l : Option Nat) (P : Program) (lo : Nat) (k : Cont) (e : Env) (d : List Deferred) (h : Heap) : Prop := ∃ rec, h[lo]? = some (.loop rec) ∧ rec.state ≠ .busy ∧ (match rec.pending with
  | none => k .normal e d (h.setIfInBounds lo (.loop { rec with state := .exhausted }))
  | some j => exec l P j k e d (h.setIfInBounds lo (.loop { rec with state := .exhausted })))
theorem WP_range {f : Operand} {ps : Array Tmp} {a b : Code} {gf : FuncId} {first caps : Array Value} (hf : ev e f = .func (.func gf) first caps)
    (H : ∀ fn : FuncId, CallsH P gf (first ++ #[.func (.yield (h.size + 1)) #[] #[]] ++ caps) ((h.push (.deferred (some []))).push (.loop { state := .ready, pending := none, fn, tmps := e.toArray, params := ps, assign := a, body := b, defers := h.size }))
      (fun _ h2 => endF none P (h.size + 1) k e (mkD h.size :: d) h2)) : WP none P (.rangeFunc f ps a b) k e d h := by
  unfold WP
  intro w hw
  subst hw
  refine wpIn_rangeFunc fun fn _ => ?_
  have hcl := H fn
  unfold CallsH at hcl
  obtain ⟨hbod, hcl⟩ := hcl
  obtain ⟨W1, hW1⟩ : ∃ W1 : World, W1 = { w with heap := (w.heap.push (.deferred (some []))).push (.loop { state := .ready, pending := none, fn, tmps := e.toArray, params := ps, assign := a, body := b, defers := w.heap.size }) } := ⟨_, rfl⟩
  have hcw := hcl W1 (by rw [hW1])
  unfold CallsW at hcw
  refine ⟨w.heap.size + 1, [mkD w.heap.size], W1, ⟨.fn (.func gf) caps, first ++ #[.func (.yield (w.heap.size + 1)) #[] #[]]⟩, W1, gf, first ++ #[.func (.yield (w.heap.size + 1)) #[] #[]] ++ caps, W1, ?_, ?_, fun _ _ => trivial, ?_, fun hh => by simp [fen_depth] at hh, callsIn_of none ?_⟩
  · rw [hW1]
    exact yrun_enter
  · have hev : ev e (.const (.func (.yield (w.heap.size + 1)) #[] #[])) = .func (.yield (w.heap.size + 1)) #[] #[] := rfl
    rw [eval_ev]
    simp only [resolve, hf, Deferred.ofValue, Sem.run_pure, List.map_toArray, List.map_cons, List.map_nil, hev]
  · show (callFunc gf _).run P _ = _
    exact call_run hbod _
  · refine Calls.mono hcw ?_
    rintro e' w3 ⟨v, rfl, ⟨rec, q1, q2, q3⟩, hr3⟩
    have hr3 : Eng.Rest w w3 := by rw [hW1] at hr3; exact ⟨hr3.os, hr3.tape, hr3.output⟩
    refine ⟨_, _, yrun_endLoop (P := P) q1 q2, ?_⟩
    cases hp : rec.pending with
    | none =>
      rw [hp] at q3
      exact ⟨q3, ⟨hr3.os, hr3.tape, hr3.output⟩⟩
    | some j =>
      rw [hp] at q3
      have hb := exec_sound _ _ _ _ _ q3
      unfold WP at hb
      rw [← hp] at hb
      have hb := hb { w3 with heap := w3.heap.setIfInBounds (w.heap.size + 1) (.loop { rec with state := .exhausted }) } rfl
      rw [hp] at hb
      refine wpIn_mono hb ?_
      rintro x a' w4 ⟨c1, c2⟩
      exact ⟨c1, hr3.trans ⟨c2.os, c2.tape, c2.output⟩⟩
theorem WP_range' {f : Operand} {ps : Array Tmp} {a b : Code} {gf : FuncId} {first caps : Array Value} (hf : ev e f = .func (.func gf) first caps)
    (H : ∀ R : Loop, R.state = .ready → R.pending = none → R.tmps = e.toArray → R.params = ps → R.assign = a → R.body = b → R.defers = h.size →
      CallsH P gf (first ++ #[.func (.yield (h.size + 1)) #[] #[]] ++ caps) ((h.push (.deferred (some []))).push (.loop R)) (fun _ h2 => endF none P (h.size + 1) k e (mkD h.size :: d) h2)) : WP none P (.rangeFunc f ps a b) k e d h :=
  WP_range hf fun fn => H _ rfl rfl rfl rfl rfl rfl rfl
theorem Loop.back {R : Loop} (h1 : R.state = .ready) (h2 : R.pending = none) : ({ ({ R with state := .busy } : Loop) with state := .ready, pending := none } : Loop) = R := by
  cases R; simp_all
def scopeK (k : Cont) : Cont := fun x e d h => (∀ i, x ≠ .goto i) ∧ k x e d h
theorem scopeK_normal : scopeK k .normal e d h = k .normal e d h := eqi (propext ⟨fun H => H.2, fun H => ⟨fun _ hi => (by cases hi), H⟩⟩)
theorem scopeK_ret : scopeK k .ret e d h = k .ret e d h := eqi (propext ⟨fun H => H.2, fun H => ⟨fun _ hi => (by cases hi), H⟩⟩)
theorem scopeK_exit {i : Nat} : scopeK k (.exit i) e d h = k (.exit i) e d h := eqi (propext ⟨fun H => H.2, fun H => ⟨fun _ hi => (by cases hi), H⟩⟩)
theorem fin_mark {rs : List ResultVar} {K : Value → Heap → Prop} {r : Nat} (hr : h[r]? = some (.deferred (some []))) (H : resA P rs e [] K (h.setIfInBounds r (.deferred none))) : finW P rs e [mkD r] h K := by
  unfold finW
  exact ⟨⟨r, rfl, hr, trivial⟩, H⟩
theorem asgY_normal {lo : Nat} {body : Code} {K : Value → Heap → Prop} {rec : Loop} (hr : h[lo]? = some (.loop rec)) (hs : rec.state = .ready) (H : exec (some lo) P body (endY lo K) e d (h.setIfInBounds lo (.loop { rec with state := .busy }))) : asgY P lo body K .normal e d h :=
  ⟨rfl, rec, hr, hs, H⟩
theorem Upd.set {b : Nat} {o : Obj} : Upd h (h.setIfInBounds b o) b := ⟨by simp, fun b' hb => Array.getElem?_setIfInBounds_ne (Ne.symm hb)⟩
theorem set_get {b : Nat} {o : Obj} (hb : b < h.size) : (h.setIfInBounds b o)[b]? = some o := by simp [hb]
def SeqOf (P : Program) (v : Value) (F : Heap → Prop) (xss : List (List Value)) : Prop :=
  ∃ q first caps, v = .func (.func q) first caps ∧ ∀ (lo : Nat) (h0 : Heap) (J : Nat → Heap → Prop) (E : Heap → Prop), (∀ i h', J i h' → F h') → J 0 h0 →
    (∀ i h' vs, xss[i]? = some vs → J i h' → CallY P (.func (.yield lo) #[] #[]) vs h' (fun v h'' => (v = .bool true ∧ J (i + 1) h'') ∨ (v = .bool false ∧ E h''))) →
    CallsH P q (first ++ #[.func (.yield lo) #[] #[]] ++ caps) h0 (fun _ h' => J xss.length h' ∨ E h')
def endI (lo : Nat) (o : Obj) (K : Heap → Prop) (Br : Code → Heap → Prop) : Cont := fun x _ _ h => h[lo]? = some o ∧ match x with
  | .normal => K h
  | .ret => Br .ret h
  | .exit i => Br (.exit i) h
  | _ => False
def asgI (P : Program) (lo : Nat) (o : Obj) (b : Code) (K : Heap → Prop) (Br : Code → Heap → Prop) : Cont := fun x e d h => x = .normal ∧ h[lo]? = some o ∧
  ∀ h2 o2, Upd h h2 lo → h2[lo]? = some o2 → exec (some lo) P b (endI lo o2 K Br) e d h2
theorem endI_normal {lo : Nat} {o : Obj} {K : Heap → Prop} {Br : Code → Heap → Prop} : endI lo o K Br .normal e d h = (h[lo]? = some o ∧ K h) := eqi rfl
theorem asgI_normal {lo : Nat} {o : Obj} {b : Code} {K : Heap → Prop} {Br : Code → Heap → Prop} : asgI P lo o b K Br .normal e d h = (h[lo]? = some o ∧
  ∀ h2 o2, Upd h h2 lo → h2[lo]? = some o2 → exec (some lo) P b (endI lo o2 K Br) e d h2) := eqi (propext ⟨fun H => H.2, fun H => ⟨rfl, H⟩⟩)
theorem WP_rangeI {f : Operand} {ps : Array Tmp} {a b : Code} {v : Value} {F : Heap → Prop} {xss : List (List Value)} (hf : ev e f = v) (hseq : SeqOf P v F xss) (Inv : Nat → Heap → Prop) (Br : Code → Heap → Prop)
    (hps : ∀ vs ∈ xss, vs.length = ps.size)
    (hext : ∀ i h', Inv i h' → F h')
    (hupd : ∀ i h1 h2, Inv i h1 → Upd h1 h2 (h.size + 1) → Inv i h2) (bupd : ∀ j h1 h2, Br j h1 → Upd h1 h2 (h.size + 1) → Br j h2)
    (start : ∀ h', Ext h h' → h'[h.size]? = some (.deferred (some [])) → h'.size = h.size + 2 → Inv 0 h')
    (round : ∀ i h' vs o, xss[i]? = some vs → Inv i h' → h'[h.size + 1]? = some o → exec (some (h.size + 1)) P a (asgI P (h.size + 1) o b (Inv (i + 1)) Br) (binds ps.toList vs e) [] h')
    (fin : ∀ h', Inv xss.length h' → k .normal e (mkD h.size :: d) h')
    (brk : ∀ j h', Br j h' → exec none P j k e (mkD h.size :: d) h') : WP none P (.rangeFunc f ps a b) k e d h := by
  obtain ⟨q, first, caps, rfl, hq⟩ := hseq
  refine WP_range' hf ?_
  intro R R1 R2 R3 R4 R5 R6 R7
  have hsz : (h.push (.deferred (some []))).size = h.size + 1 := by simp
  refine CallsH.mono (hq (h.size + 1) _ (fun i h' => Inv i h' ∧ h'[h.size + 1]? = some (.loop R)) (fun h' => ∃ (rec : Loop) (j : Code), h'[h.size + 1]? = some (.loop rec) ∧ rec.state = .done ∧ rec.pending = some j ∧ Br j h') (fun i h' H => hext i h' H.1) ?_ ?_) ?_
  · refine ⟨start _ (((Ext.refl h).push _).push _) (push_old push_new) (by simp), ?_⟩
    have := push_new (h := h.push (.deferred (some []))) (o := .loop R)
    rwa [hsz] at this
  · rintro i h' vs hvs ⟨hI, hR⟩
    refine callY_yield hR (by rw [R4]; exact hps _ (List.mem_of_getElem? hvs)) ?_
    rw [R3, R4, R5, R6, List.toList_toArray]
    refine exec_mono a ?_ _ _ _ (round i h' vs _ hvs hI hR)
    rintro x e2 d2 h2 ⟨rfl, h2o, H⟩
    refine asgY_normal h2o R1 ?_
    refine exec_mono b ?_ _ _ _ (H _ _ Upd.set (set_get (lt_of_get h2o)))
    rintro x e3 d3 h3 ⟨h3o, H3⟩
    cases x with
    | normal =>
      refine ⟨_, h3o, ?_⟩
      refine .inl ⟨rfl, hupd _ _ _ H3 Upd.set, ?_⟩
      show (h3.setIfInBounds _ _)[_]? = _
      rw [set_get (lt_of_get h3o), Loop.back R1 R2]
    | ret =>
      refine ⟨_, h3o, ?_⟩
      exact .inr ⟨rfl, _, _, set_get (lt_of_get h3o), rfl, rfl, bupd _ _ _ H3 Upd.set⟩
    | exit j =>
      refine ⟨_, h3o, ?_⟩
      exact .inr ⟨rfl, _, _, set_get (lt_of_get h3o), rfl, rfl, bupd _ _ _ H3 Upd.set⟩
    | _ => exact H3.elim
  · rintro v h' (⟨hI, hR⟩ | ⟨rec, j, hR, hst, hpd, hB⟩)
    · refine ⟨_, hR, by rw [R1]; decide, ?_⟩
      rw [R2]
      exact fin _ (hupd _ _ _ hI Upd.set)
    · refine ⟨_, hR, by rw [hst]; decide, ?_⟩
      rw [hpd]
      exact brk _ _ (bupd _ _ _ hB Upd.set)
end yields
end Go.Eng
end
section
namespace Go.Proofs.Ytmgkeeefbfefgaa
set_option linter.unusedSimpArgs false
set_option linter.unusedVariables false
set_option linter.defProp false
set_option linter.unusedSectionVars false
namespace MB
variable {sh mo : Nat → Nat} {n D : Nat}
def fit (sh mo : Nat → Nat) (bg : List Nat) (d : Nat) : Bool := (List.range bg.length).all fun i => !(bg.getD i 0 == d && clash sh mo i bg.length)
def go (sh mo : Nat → Nat) (D : Nat) : Nat → List Nat → Option (List Nat)
  | 0, bg => some bg
  | k + 1, bg => (List.range D).findSome? fun d => if fit sh mo bg d then go sh mo D k (bg ++ [d]) else none
def rightL (sh mo : Nat → Nat) (l : List Nat) : Prop := right sh mo (fun i => l.getD i 0) l.length
def dif (l : List Nat) : Nat := cnt (fun i => !(l.take i).contains (l.getD i 0)) l.length
theorem take_snoc {l : List Nat} {k : Nat} (h : k < l.length) : l.take (k + 1) = l.take k ++ [l.getD k 0] := by
  rw [List.take_add_one, List.getD_eq_getElem?_getD, List.getElem?_eq_getElem h]
  rfl
theorem dif_take (l : List Nat) : ∀ k, k ≤ l.length → ∃ u : List Nat, u.Nodup ∧ (∀ x, x ∈ u ↔ x ∈ l.take k) ∧ u.length = cnt (fun i => !(l.take i).contains (l.getD i 0)) k
  | 0, _ => ⟨[], List.nodup_nil, fun x => by simp, rfl⟩
  | k + 1, h => by
    obtain ⟨u, h1, h2, h3⟩ := dif_take l k (by omega)
    rw [cnt_succ, take_snoc (by omega)]
    by_cases hm : l.getD k 0 ∈ l.take k
    · refine ⟨u, h1, fun x => ?_, ?_⟩
      · rw [List.mem_append, List.mem_singleton, h2]
        exact ⟨.inl, fun h => h.elim id fun e => e ▸ hm⟩
      · rw [if_neg (by simpa using hm), h3]; rfl
    · refine ⟨l.getD k 0 :: u, List.nodup_cons.2 ⟨fun h => hm ((h2 _).1 h), h1⟩, fun x => ?_, ?_⟩
      · rw [List.mem_append, List.mem_singleton, List.mem_cons, h2]
        exact ⟨fun h => h.elim .inr .inl, fun h => h.elim .inr .inl⟩
      · rw [if_pos (by simpa using hm), List.length_cons, h3]
theorem dif_ex (l : List Nat) : ∃ u : List Nat, u.Nodup ∧ (∀ x, x ∈ u ↔ x ∈ l) ∧ u.length = dif l := by
  obtain ⟨u, h1, h2, h3⟩ := dif_take l l.length (Nat.le_refl _)
  rw [List.take_of_length_le (Nat.le_refl _)] at h2
  exact ⟨u, h1, h2, h3⟩
theorem mem_getD {l : List Nat} {i : Nat} (h : i < l.length) : l.getD i 0 ∈ l := by
  rw [List.getD_eq_getElem?_getD, List.getElem?_eq_getElem h]
  exact List.getElem_mem h
structure Great (sh mo : Nat → Nat) (n D : Nat) : Prop where
  sle : ∀ s, load sh n s ≤ D
  mle : ∀ m, load mo n m ≤ D
  is : D = 0 ∨ (∃ s, load sh n s = D) ∨ ∃ m, load mo n m = D
end MB
end Go.Proofs.Ytmgkeeefbfefgaa
end
section
namespace Go.Proofs.Ytmgkeeefbfefgaa
set_option linter.unusedSimpArgs false
set_option linter.unusedVariables false
set_option linter.defProp false
set_option linter.unusedSectionVars false
namespace MB
open Go.Lib in
theorem compact_inc (d : Array Int) (hs : ∀ a b, a ≤ b → b < d.size → d[a]! ≤ d[b]!) : ∀ m, m ≤ d.size → (compactUpTo d m).Pairwise (· < ·) ∧ ∀ x, x ∈ compactUpTo d m ↔ ∃ j, j < m ∧ d[j]! = x
  | 0, _ => ⟨List.Pairwise.nil, fun x => ⟨fun h => absurd h List.not_mem_nil, fun ⟨j, h, _⟩ => by omega⟩⟩
  | m + 1, h => by
    obtain ⟨h1, h2⟩ := compact_inc d hs m (by omega)
    rw [compactUpTo_succ]
    by_cases hk : keeps d m = true
    · rw [if_pos hk]
      refine ⟨List.pairwise_append.2 ⟨h1, by simp, fun a ha b hb => ?_⟩, fun x => ?_⟩
      · obtain ⟨j, hj, rfl⟩ := (h2 a).1 ha
        rw [List.mem_singleton.1 hb]
        have hm : m ≠ 0 := by omega
        have hne : d[m]! ≠ d[m - 1]! := by
          have := of_decide_eq_true hk
          exact this.resolve_left hm
        have e1 := hs j (m - 1) (by omega) (by omega)
        have e2 := hs (m - 1) m (by omega) (by omega)
        omega
      · rw [List.mem_append, h2, List.mem_singleton]
        constructor
        · rintro (⟨j, hj, e⟩ | e)
          · exact ⟨j, by omega, e⟩
          · exact ⟨m, by omega, e.symm⟩
        · rintro ⟨j, hj, e⟩
          by_cases hjm : j = m
          · subst hjm; exact .inr e.symm
          · exact .inl ⟨j, by omega, e⟩
    · rw [if_neg hk, List.append_nil]
      refine ⟨h1, fun x => ?_⟩
      rw [h2]
      constructor
      · rintro ⟨j, hj, e⟩; exact ⟨j, by omega, e⟩
      · rintro ⟨j, hj, e⟩
        by_cases hjm : j = m
        · subst hjm
          have hk2 : ¬ (j = 0 ∨ d[j]! ≠ d[j - 1]!) := fun h => hk (decide_eq_true h)
          have h3 : j ≠ 0 := fun e => hk2 (.inl e)
          have h4 : d[j]! = d[j - 1]! := Classical.not_not.1 fun e => hk2 (.inr e)
          exact ⟨j - 1, by omega, h4.symm.trans e⟩
        · exact ⟨j, by omega, e⟩
theorem compact_dif {days : List Nat} {zs : List Int} (hp : zs.Perm (days.map fun x : Nat => (x : Int))) (hs : zs.Pairwise (· ≤ ·)) : (Lib.compact zs).length = dif days := by
  obtain ⟨u, h1, h2, h3⟩ := dif_ex days
  have hsz : zs.toArray.size = zs.length := by simp
  have hget : ∀ j, j < zs.length → ∃ h : j < zs.length, zs.toArray[j]! = zs[j] := fun j hj => ⟨hj, by simp [hj]⟩
  obtain ⟨c1, c2⟩ := compact_inc zs.toArray (fun a b hab hb => by
    rw [hsz] at hb
    obtain ⟨b1, b2⟩ := hget b hb
    obtain ⟨a1, a2⟩ := hget a (by omega)
    rw [a2, b2]
    by_cases e : a = b
    · subst e; omega
    · exact List.pairwise_iff_getElem.1 hs a b a1 b1 (by omega)) zs.length (by rw [hsz]; exact Nat.le_refl _)
  have c2 : ∀ x, x ∈ Lib.compact zs ↔ x ∈ zs := fun x => by
    show x ∈ Lib.compactUpTo zs.toArray zs.length ↔ _
    rw [c2]
    constructor
    · rintro ⟨j, hj, e⟩
      obtain ⟨h, e2⟩ := hget j hj
      rw [← e, e2]
      exact List.getElem_mem h
    · intro hx
      obtain ⟨j, hj, e⟩ := List.getElem_of_mem hx
      obtain ⟨h, e2⟩ := hget j hj
      exact ⟨j, hj, e2.trans e⟩
  have hmem : ∀ x, x ∈ Lib.compact zs ↔ ∃ y, y ∈ days ∧ (y : Int) = x := fun x => by
    rw [c2, hp.mem_iff, List.mem_map]
  have hn : ((Lib.compact zs).map Int.toNat).Nodup := by
    rw [List.Nodup, List.pairwise_map]
    have c1 : (Lib.compact zs).Pairwise (· < ·) := c1
    refine c1.imp_of_mem fun {a b} ha hb hlt e => ?_
    obtain ⟨x, _, rfl⟩ := (hmem a).1 ha
    obtain ⟨y, _, rfl⟩ := (hmem b).1 hb
    omega
  have := same_length hn h1 fun x => by
    rw [h2, List.mem_map]
    constructor
    · rintro ⟨a, ha, rfl⟩
      obtain ⟨y, hy, rfl⟩ := (hmem a).1 ha
      exact hy
    · intro hx
      exact ⟨x, (hmem x).2 ⟨x, hx, rfl⟩, rfl⟩
  rw [List.length_map] at this
  omega
end MB
end Go.Proofs.Ytmgkeeefbfefgaa
end
section
namespace Go.Proofs.Ytmgkeeefbfefgaa
open Go Go.Proofs Go.Eng Go.Run Tab Go.Sort
set_option maxRecDepth 100000
set_option linter.unusedSimpArgs false
set_option linter.unusedVariables false
set_option linter.defProp false
set_option maxHeartbeats 1000000
theorem holds_ints {w : World} {g : Nat} {xs : List Int} {tl : List Value} (hb : w.heap[g]? = some (.cells (Eng.ints xs ++ tl).toArray 3 (0, 0))) : Holds (Value.int .i64) w g 0 xs.toArray := by
  intro j hj
  have hj : j < xs.length := by simpa using hj
  refine ⟨?_, ?_⟩
  · simp only [World.cell?, hb, Nat.zero_add]
    rw [List.getElem?_toArray, List.getElem?_append_left (by rw [Eng.ints_length]; exact hj), Eng.ints_getElem? _ _ hj]
    simp [List.getD, hj]
  · simp [World.frozen?, hb]
theorem putRow_ints {w : World} {g : Nat} {xs ys : List Int} {tl : List Value} (hb : w.heap[g]? = some (.cells (Eng.ints xs ++ tl).toArray 3 (0, 0))) (hl : ys.length = xs.length) :
    (putRow (Value.int .i64) w g 0 ys.toArray).heap[g]? = some (.cells (Eng.ints ys ++ tl).toArray 3 (0, 0)) ∧ Upd w.heap (putRow (Value.int .i64) w g 0 ys.toArray).heap g := by
  have hg := lt_of_get hb
  refine ⟨?_, ?_, ?_⟩
  · simp only [putRow, mapBlock, Array.getElem?_modify, if_true, hb, Option.map_some, onCells]
    congr 2
    refine Array.ext_getElem? fun k => ?_
    simp only [putCells, Array.getElem?_mapIdx, List.getElem?_toArray, Nat.zero_le, true_and, Nat.zero_add, Nat.sub_zero, List.size_toArray]
    by_cases hk : k < ys.length
    · rw [List.getElem?_append_left (by rw [Eng.ints_length]; omega), List.getElem?_append_left (by rw [Eng.ints_length]; omega), Eng.ints_getElem? _ _ (by omega), Eng.ints_getElem? _ _ hk]
      simp [hk, List.getD]
    · rw [List.getElem?_append_right (by rw [Eng.ints_length]; omega), List.getElem?_append_right (by rw [Eng.ints_length]; omega), Eng.ints_length, Eng.ints_length, hl]
      cases tl[k - xs.length]? with
      | none => rfl
      | some v => simp [hk]; omega
  · simp [putRow, mapBlock]
  · intro b hne
    simp only [putRow, mapBlock, Array.getElem?_modify]
    rw [if_neg (fun e => hne e.symm)]
theorem calls_fin {P : Program} {f : FuncId} {args : Array Value} {K : Value → Eng.Heap → Prop} {h : Eng.Heap} (hb : bodied P f = true) (H : ∀ w : World, w.heap = h → Calls P f args w fun e w' => ∃ v, e = .returned v ∧ K v w'.heap ∧ w'.os = w.os ∧ w'.tape = w.tape ∧ w'.output = w.output) : CallsH P f args h K := by
  unfold CallsH CallsW
  refine ⟨hb, fun w hw => ?_⟩
  refine (H w hw).mono fun e w' ⟨v, he, hk, h1, h2, h3⟩ => ⟨v, he, hk, h1, h2, h3⟩
def srt (l : List Int) : Prop := l.Pairwise (· ≤ ·)
theorem msort_ok (xs : List Int) : (xs.mergeSort fun x y => decide (x ≤ y)).Perm xs ∧ srt (xs.mergeSort fun x y => decide (x ≤ y)) := by
  refine ⟨List.mergeSort_perm _ _, ?_⟩
  have := List.pairwise_mergeSort (le := fun x y : Int => decide (x ≤ y)) (fun a b c h1 h2 => by simp at *; omega) (fun a b => by simp; omega) xs
  exact this.imp fun h => by simpa using h
theorem sort73 (g c n : Nat) (xs : List Int) (tl : List Value) (h : Eng.Heap) (hb : h[g]? = some (.cells (Eng.ints xs ++ tl).toArray 3)) (hn : n = xs.length) (hl : n ≤ 1000000) :
    CallsH Try.prog 73 #[.slice (some ⟨g, 0, none⟩) n c] h (fun v h' => v = .tuple #[] ∧ (h.size ≤ h'.size ∧ ∀ b, b < h.size → b ≠ g → h'[b]? = h[b]?) ∧ ∃ ys, ys.Perm xs ∧ srt ys ∧ h'[g]? = some (.cells (Eng.ints ys ++ tl).toArray 3)) := by
  subst hn
  refine calls_fin (by kernel_rfl) fun w hw => ?_
  subst hw
  have hg := lt_of_get hb
  refine (Any.slices_Sort_int Try.lays189 g 0 c xs w (holds_ints hb) hg (by omega)).mono ?_
  rintro e w' ⟨rfl, n, os, rfl⟩
  obtain ⟨p1, p2⟩ := msort_ok xs
  have hb' : (Go.Sort.ahead w n).heap[g]? = some (.cells (Eng.ints xs ++ tl).toArray 3 (0, 0)) := hb
  obtain ⟨q1, q2⟩ := putRow_ints (ys := xs.mergeSort fun x y => decide (x ≤ y)) hb' p1.length_eq
  refine ⟨_, rfl, ⟨rfl, ⟨?_, fun b hbl hne => ?_⟩, _, p1, p2, ?_⟩, rfl, rfl, rfl⟩
  · show w.heap.size ≤ ((putRow _ _ _ _ _).heap ++ os).size
    rw [Array.size_append, q2.size]
    show w.heap.size ≤ w.heap.size + _
    omega
  · show ((putRow _ _ _ _ _).heap ++ os)[b]? = _
    rw [Array.getElem?_append_left (by rw [q2.size]; exact hbl), q2.old b hne]
    rfl
  · show ((putRow _ _ _ _ _).heap ++ os)[g]? = _
    rw [Array.getElem?_append_left (by rw [q2.size]; exact hg)]
    exact q1
theorem sort0 (a : Option Addr) (c : Nat) (h : Eng.Heap) : CallsH Try.prog 73 #[.slice a 0 c] h (fun v h' => v = .tuple #[] ∧ h' = h) := by
  refine calls_fin (by kernel_rfl) fun w hw => ?_
  subst hw
  refine (Any.slices_Sort_int_none Try.lays189 a c w).mono ?_
  rintro e w' ⟨rfl, rfl⟩
  exact ⟨_, rfl, ⟨rfl, rfl⟩, rfl, rfl, rfl⟩
theorem compact0 (a : Option Addr) (c : Nat) (h : Eng.Heap) : CallsH Try.prog 56 #[.slice a 0 c] h (fun v h' => v = .slice a 0 c ∧ h' = h) := by
  refine calls_fin (by kernel_rfl) fun w hw => ?_
  subst hw
  refine (Any.slices_Compact_int_empty Try.lays20 a c w).mono ?_
  rintro e w' ⟨rfl, rfl⟩
  exact ⟨_, rfl, ⟨rfl, rfl⟩, rfl, rfl, rfl⟩
theorem compact56 (g c n : Nat) (xs : List Int) (tl : List Value) (h : Eng.Heap) (hb : h[g]? = some (.cells (Eng.ints xs ++ tl).toArray 3)) (hn : n = xs.length) (hc : n ≤ c) (hl : n ≤ 1000000) :
    CallsH Try.prog 56 #[.slice (some ⟨g, 0, none⟩) n c] h (fun v h' => v = .slice (some ⟨g, 0, none⟩) (Lib.compact xs).length c ∧ Upd h h' g) := by
  subst hn
  refine calls_fin (by kernel_rfl) fun w hw => ?_
  subst hw
  refine (Any.slices_Compact_int Try.lays20 g 0 c xs w (holds_ints hb) (by omega) hc).mono ?_
  rintro e w' ⟨rfl, n, rfl⟩
  refine ⟨_, rfl, ⟨rfl, ⟨?_, ?_⟩⟩, rfl, rfl, rfl⟩
  · simp [putRow, mapBlock, Go.Sort.ahead]
  · intro b hne
    simp only [putRow, mapBlock, Array.getElem?_modify]
    rw [if_neg (fun e => hne e.symm)]
    rfl
theorem sort73_own (m n c : Nat) (a : Option Addr) (xs : List Int) (h : Eng.Heap) (O : OwnI m h 3 a n c xs) (hl : n ≤ 1000000) :
    CallsH Try.prog 73 #[.slice a n c] h (fun v h' => v = .tuple #[] ∧ (h.size ≤ h'.size ∧ ∀ b, b < h.size → b < m → h'[b]? = h[b]?) ∧ ∃ ys, ys.Perm xs ∧ srt ys ∧ OwnI m h' 3 a n c ys) := by
  have hn := O.ln
  by_cases h0 : 0 < n
  · obtain ⟨g, tl, rfl, hg, hb, hc, hc2, _⟩ := O.block h0
    refine CallsH.mono (sort73 g c n xs tl h hb hn hl) ?_
    rintro v h' ⟨rfl, ⟨q1, q2⟩, ys, hp, hs, hb2⟩
    have e := hp.length_eq
    refine ⟨rfl, ⟨q1, fun b h1 h2 => q2 b h1 (by omega)⟩, ys, hp, hs, ?_⟩
    have := OwnI.of_block (xs := ys) (cap := c) hg hb2 (by omega) (by omega)
    rwa [show ys.length = n by omega] at this
  · obtain rfl : n = 0 := by omega
    refine CallsH.mono (sort0 a c h) ?_
    rintro v h' ⟨rfl, rfl⟩
    obtain rfl : xs = [] := List.length_eq_zero_iff.1 hn.symm
    exact ⟨rfl, ⟨Nat.le_refl _, fun b _ _ => rfl⟩, [], List.Perm.refl _, List.Pairwise.nil, O⟩
end Go.Proofs.Ytmgkeeefbfefgaa
end
