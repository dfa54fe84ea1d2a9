/- Texts joined by pack.py: lemmas for YtafemfjhflfdeaaDoorKnown. No condition. -/
import Derived.Test.YtafemfjhflfdeaaDoorPB6
import Derived.Laws.Externs
import Derived.KernelRfl
set_option linter.unusedSimpArgs false
set_option linter.unusedVariables false
set_option linter.defProp false
section
namespace Go.Proofs.YtafemfjhflfdeaaDoor.Pt
open Go Go.Proofs Go.Run
set_option maxRecDepth 100000
theorem y0 : mkTI Tryd.prog 0 = some ⟨1, 0, (.tup []), .other, []⟩ := by kernel_rfl
theorem q0 : TyQ Tryd.prog 0 (some ⟨1, 0, (.tup []), .other, []⟩) := fun ti h => by cases h; exact ⟨y0, .inl rfl⟩
theorem y1 : mkTI Tryd.prog 1 = some ⟨1, 8, .nfunc, .func, []⟩ := by kernel_rfl
theorem q1 : TyQ Tryd.prog 1 (some ⟨1, 8, .nfunc, .func, []⟩) := fun ti h => by cases h; exact ⟨y1, .inl rfl⟩
theorem y2 : mkTI Tryd.prog 2 = some ⟨1, 8, (.int .i64 0), (.int .i64), []⟩ := by kernel_rfl
theorem q2 : TyQ Tryd.prog 2 (some ⟨1, 8, (.int .i64 0), (.int .i64), []⟩) := fun ti h => by cases h; exact ⟨y2, .inl rfl⟩
theorem y3 : mkTI Tryd.prog 3 = some ⟨1, 8, (.int .i64 0), (.int .i64), []⟩ := by kernel_rfl
theorem q3 : TyQ Tryd.prog 3 (some ⟨1, 8, (.int .i64 0), (.int .i64), []⟩) := fun ti h => by cases h; exact ⟨y3, .inl rfl⟩
theorem y4 : mkTI Tryd.prog 4 = some ⟨1, 1, (.bool false), .bool, []⟩ := by kernel_rfl
theorem q4 : TyQ Tryd.prog 4 (some ⟨1, 1, (.bool false), .bool, []⟩) := fun ti h => by cases h; exact ⟨y4, .inl rfl⟩
theorem y5 : mkTI Tryd.prog 5 = some ⟨1, 1, (.int .u8 0), (.int .u8), []⟩ := by kernel_rfl
theorem q5 : TyQ Tryd.prog 5 (some ⟨1, 1, (.int .u8 0), (.int .u8), []⟩) := fun ti h => by cases h; exact ⟨y5, .inl rfl⟩
theorem y6 : mkTI Tryd.prog 6 = some ⟨1, 1, (.int .u8 0), (.int .u8), []⟩ := by kernel_rfl
theorem q6 : TyQ Tryd.prog 6 (some ⟨1, 1, (.int .u8 0), (.int .u8), []⟩) := fun ti h => by cases h; exact ⟨y6, .inl rfl⟩
theorem y7 : mkTI Tryd.prog 7 = some ⟨4, 24, (.agg [(.int .i64 0), (.int .i64 0), (.bool false), (.int .u8 0)]), (.strct [(0, 2, 1), (1, 3, 1), (2, 4, 1), (3, 6, 1)]), []⟩ := by kernel_rfl
theorem q7 : TyQ Tryd.prog 7 (some ⟨4, 24, (.agg [(.int .i64 0), (.int .i64 0), (.bool false), (.int .u8 0)]), (.strct [(0, 2, 1), (1, 3, 1), (2, 4, 1), (3, 6, 1)]), []⟩) := fun ti h => by cases h; exact ⟨y7, .inl rfl⟩
theorem y8 : mkTI Tryd.prog 8 = some ⟨4, 24, (.agg [(.int .i64 0), (.int .i64 0), (.bool false), (.int .u8 0)]), (.strct [(0, 2, 1), (1, 3, 1), (2, 4, 1), (3, 6, 1)]), []⟩ := by kernel_rfl
theorem q8 : TyQ Tryd.prog 8 (some ⟨4, 24, (.agg [(.int .i64 0), (.int .i64 0), (.bool false), (.int .u8 0)]), (.strct [(0, 2, 1), (1, 3, 1), (2, 4, 1), (3, 6, 1)]), []⟩) := fun ti h => by cases h; exact ⟨y8, .inl rfl⟩
theorem y9 : mkTI Tryd.prog 9 = some ⟨1, 16, (.str []), .string, []⟩ := by kernel_rfl
theorem q9 : TyQ Tryd.prog 9 (some ⟨1, 16, (.str []), .string, []⟩) := fun ti h => by cases h; exact ⟨y9, .inl rfl⟩
theorem y10 : mkTI Tryd.prog 10 = some ⟨1, 16, (.str []), .string, []⟩ := by kernel_rfl
theorem q10 : TyQ Tryd.prog 10 (some ⟨1, 16, (.str []), .string, []⟩) := fun ti h => by cases h; exact ⟨y10, .inl rfl⟩
theorem y11 : mkTI Tryd.prog 11 = some ⟨1, 16, (.str []), .string, []⟩ := by kernel_rfl
theorem q11 : TyQ Tryd.prog 11 (some ⟨1, 16, (.str []), .string, []⟩) := fun ti h => by cases h; exact ⟨y11, .inl rfl⟩
theorem y12 : mkTI Tryd.prog 12 = some ⟨1, 8, (.int .u64 0), (.int .u64), []⟩ := by kernel_rfl
theorem q12 : TyQ Tryd.prog 12 (some ⟨1, 8, (.int .u64 0), (.int .u64), []⟩) := fun ti h => by cases h; exact ⟨y12, .inl rfl⟩
theorem y13 : mkTI Tryd.prog 13 = some ⟨2, 24, (.agg [(.str []), (.int .u64 0)]), (.strct [(0, 9, 1), (1, 12, 1)]), []⟩ := by kernel_rfl
theorem q13 : TyQ Tryd.prog 13 (some ⟨2, 24, (.agg [(.str []), (.int .u64 0)]), (.strct [(0, 9, 1), (1, 12, 1)]), []⟩) := fun ti h => by cases h; exact ⟨y13, .inl rfl⟩
theorem y14 : mkTI Tryd.prog 14 = some ⟨2, 24, (.agg [(.str []), (.int .u64 0)]), (.strct [(0, 9, 1), (1, 12, 1)]), []⟩ := by kernel_rfl
theorem q14 : TyQ Tryd.prog 14 (some ⟨2, 24, (.agg [(.str []), (.int .u64 0)]), (.strct [(0, 9, 1), (1, 12, 1)]), []⟩) := fun ti h => by cases h; exact ⟨y14, .inl rfl⟩
theorem y15 : mkTI Tryd.prog 15 = some ⟨1, 8, .nptr, (.ptr 165), []⟩ := by kernel_rfl
theorem q15 : TyQ Tryd.prog 15 (some ⟨1, 8, .nptr, (.ptr 165), []⟩) := fun ti h => by cases h; exact ⟨y15, .inl rfl⟩
theorem y16 : mkTI Tryd.prog 16 = some ⟨1, 8, .nptr, (.ptr 168), []⟩ := by kernel_rfl
theorem q16 : TyQ Tryd.prog 16 (some ⟨1, 8, .nptr, (.ptr 168), []⟩) := fun ti h => by cases h; exact ⟨y16, .inl rfl⟩
theorem y17 : mkTI Tryd.prog 17 = some ⟨1, 8, .nptr, (.ptr 177), []⟩ := by kernel_rfl
theorem q17 : TyQ Tryd.prog 17 (some ⟨1, 8, .nptr, (.ptr 177), []⟩) := fun ti h => by cases h; exact ⟨y17, .inl rfl⟩
theorem y18 : mkTI Tryd.prog 18 = some ⟨1, 8, (.agg [.nptr]), (.strct [(0, 17, 1)]), []⟩ := by kernel_rfl
theorem q18 : TyQ Tryd.prog 18 (some ⟨1, 8, (.agg [.nptr]), (.strct [(0, 17, 1)]), []⟩) := fun ti h => by cases h; exact ⟨y18, .inl rfl⟩
theorem y19 : mkTI Tryd.prog 19 = some ⟨1, 8, (.agg [.nptr]), (.strct [(0, 17, 1)]), []⟩ := by kernel_rfl
theorem q19 : TyQ Tryd.prog 19 (some ⟨1, 8, (.agg [.nptr]), (.strct [(0, 17, 1)]), []⟩) := fun ti h => by cases h; exact ⟨y19, .inl rfl⟩
theorem y20 : mkTI Tryd.prog 20 = some ⟨1, 16, .niface, .iface, []⟩ := by kernel_rfl
theorem q20 : TyQ Tryd.prog 20 (some ⟨1, 16, .niface, .iface, []⟩) := fun ti h => by cases h; exact ⟨y20, .inl rfl⟩
theorem y21 : mkTI Tryd.prog 21 = some ⟨1, 4, (.int .i32 0), (.int .i32), []⟩ := by kernel_rfl
theorem q21 : TyQ Tryd.prog 21 (some ⟨1, 4, (.int .i32 0), (.int .i32), []⟩) := fun ti h => by cases h; exact ⟨y21, .inl rfl⟩
theorem y22 : mkTI Tryd.prog 22 = some ⟨1, 24, .nslice, (.slice 3), []⟩ := by kernel_rfl
theorem q22 : TyQ Tryd.prog 22 (some ⟨1, 24, .nslice, (.slice 3), []⟩) := fun ti h => by cases h; exact ⟨y22, .inl rfl⟩
theorem y23 : mkTI Tryd.prog 23 = some ⟨4, 64, (.agg [.nslice, .nslice, (.int .i64 0), (.int .i64 0)]), (.strct [(0, 22, 1), (1, 22, 1), (2, 3, 1), (3, 3, 1)]), []⟩ := by kernel_rfl
theorem q23 : TyQ Tryd.prog 23 (some ⟨4, 64, (.agg [.nslice, .nslice, (.int .i64 0), (.int .i64 0)]), (.strct [(0, 22, 1), (1, 22, 1), (2, 3, 1), (3, 3, 1)]), []⟩) := fun ti h => by cases h; exact ⟨y23, .inl rfl⟩
theorem y24 : mkTI Tryd.prog 24 = some ⟨4, 64, (.agg [.nslice, .nslice, (.int .i64 0), (.int .i64 0)]), (.strct [(0, 22, 1), (1, 22, 1), (2, 3, 1), (3, 3, 1)]), []⟩ := by kernel_rfl
theorem q24 : TyQ Tryd.prog 24 (some ⟨4, 64, (.agg [.nslice, .nslice, (.int .i64 0), (.int .i64 0)]), (.strct [(0, 22, 1), (1, 22, 1), (2, 3, 1), (3, 3, 1)]), []⟩) := fun ti h => by cases h; exact ⟨y24, .inl rfl⟩
theorem y25 : mkTI Tryd.prog 25 = some ⟨1, 8, .nfunc, .func, []⟩ := by kernel_rfl
theorem q25 : TyQ Tryd.prog 25 (some ⟨1, 8, .nfunc, .func, []⟩) := fun ti h => by cases h; exact ⟨y25, .inl rfl⟩
theorem y26 : mkTI Tryd.prog 26 = some ⟨1, 8, .nfunc, .func, []⟩ := by kernel_rfl
theorem q26 : TyQ Tryd.prog 26 (some ⟨1, 8, .nfunc, .func, []⟩) := fun ti h => by cases h; exact ⟨y26, .inl rfl⟩
theorem y27 : mkTI Tryd.prog 27 = some ⟨1, 8, .nfunc, .func, []⟩ := by kernel_rfl
theorem q27 : TyQ Tryd.prog 27 (some ⟨1, 8, .nfunc, .func, []⟩) := fun ti h => by cases h; exact ⟨y27, .inl rfl⟩
theorem y28 : mkTI Tryd.prog 28 = some ⟨1, 8, (.int .i64 0), (.int .i64), []⟩ := by kernel_rfl
theorem q28 : TyQ Tryd.prog 28 (some ⟨1, 8, (.int .i64 0), (.int .i64), []⟩) := fun ti h => by cases h; exact ⟨y28, .inl rfl⟩
theorem y30 : mkTI Tryd.prog 30 = some ⟨1, 8, .nfunc, .func, []⟩ := by kernel_rfl
theorem q30 : TyQ Tryd.prog 30 (some ⟨1, 8, .nfunc, .func, []⟩) := fun ti h => by cases h; exact ⟨y30, .inl rfl⟩
theorem y31 : mkTI Tryd.prog 31 = some ⟨1, 8, .nfunc, .func, []⟩ := by kernel_rfl
theorem q31 : TyQ Tryd.prog 31 (some ⟨1, 8, .nfunc, .func, []⟩) := fun ti h => by cases h; exact ⟨y31, .inl rfl⟩
theorem y32 : mkTI Tryd.prog 32 = some ⟨1, 8, .nfunc, .func, []⟩ := by kernel_rfl
theorem q32 : TyQ Tryd.prog 32 (some ⟨1, 8, .nfunc, .func, []⟩) := fun ti h => by cases h; exact ⟨y32, .inl rfl⟩
theorem y34 : mkTI Tryd.prog 34 = some ⟨1, 8, .nfunc, .func, []⟩ := by kernel_rfl
theorem q34 : TyQ Tryd.prog 34 (some ⟨1, 8, .nfunc, .func, []⟩) := fun ti h => by cases h; exact ⟨y34, .inl rfl⟩
theorem y36 : mkTI Tryd.prog 36 = some ⟨1, 8, .nfunc, .func, []⟩ := by kernel_rfl
theorem q36 : TyQ Tryd.prog 36 (some ⟨1, 8, .nfunc, .func, []⟩) := fun ti h => by cases h; exact ⟨y36, .inl rfl⟩
theorem y37 : mkTI Tryd.prog 37 = some ⟨1, 8, .nfunc, .func, []⟩ := by kernel_rfl
theorem q37 : TyQ Tryd.prog 37 (some ⟨1, 8, .nfunc, .func, []⟩) := fun ti h => by cases h; exact ⟨y37, .inl rfl⟩
theorem y38 : mkTI Tryd.prog 38 = some ⟨1, 8, .nfunc, .func, []⟩ := by kernel_rfl
theorem q38 : TyQ Tryd.prog 38 (some ⟨1, 8, .nfunc, .func, []⟩) := fun ti h => by cases h; exact ⟨y38, .inl rfl⟩
theorem y40 : mkTI Tryd.prog 40 = some ⟨1, 8, .nfunc, .func, []⟩ := by kernel_rfl
theorem q40 : TyQ Tryd.prog 40 (some ⟨1, 8, .nfunc, .func, []⟩) := fun ti h => by cases h; exact ⟨y40, .inl rfl⟩
theorem y41 : mkTI Tryd.prog 41 = some ⟨1, 8, .nfunc, .func, []⟩ := by kernel_rfl
theorem q41 : TyQ Tryd.prog 41 (some ⟨1, 8, .nfunc, .func, []⟩) := fun ti h => by cases h; exact ⟨y41, .inl rfl⟩
theorem y42 : mkTI Tryd.prog 42 = some ⟨1, 8, .nfunc, .func, []⟩ := by kernel_rfl
theorem q42 : TyQ Tryd.prog 42 (some ⟨1, 8, .nfunc, .func, []⟩) := fun ti h => by cases h; exact ⟨y42, .inl rfl⟩
theorem y43 : mkTI Tryd.prog 43 = some ⟨1, 8, .nfunc, .func, []⟩ := by kernel_rfl
theorem q43 : TyQ Tryd.prog 43 (some ⟨1, 8, .nfunc, .func, []⟩) := fun ti h => by cases h; exact ⟨y43, .inl rfl⟩
theorem y44 : mkTI Tryd.prog 44 = some ⟨2, 16, (.agg [(.int .i64 0), (.int .i64 0)]), (.strct [(0, 2, 1), (1, 2, 1)]), []⟩ := by kernel_rfl
theorem q44 : TyQ Tryd.prog 44 (some ⟨2, 16, (.agg [(.int .i64 0), (.int .i64 0)]), (.strct [(0, 2, 1), (1, 2, 1)]), []⟩) := fun ti h => by cases h; exact ⟨y44, .inl rfl⟩
theorem y45 : mkTI Tryd.prog 45 = some ⟨2, 16, (.agg [(.int .i64 0), (.int .i64 0)]), (.strct [(0, 2, 1), (1, 2, 1)]), []⟩ := by kernel_rfl
theorem z45 : flT Tryd.prog 45 = [.i, .i] := by kernel_rfl
theorem q45 : TyQ Tryd.prog 45 (some ⟨2, 16, (.agg [(.int .i64 0), (.int .i64 0)]), (.strct [(0, 2, 1), (1, 2, 1)]), [.i, .i]⟩) := fun ti h => by cases h; exact ⟨y45, .inr z45⟩
theorem y47 : mkTI Tryd.prog 47 = some ⟨1, 8, .nfunc, .func, []⟩ := by kernel_rfl
theorem q47 : TyQ Tryd.prog 47 (some ⟨1, 8, .nfunc, .func, []⟩) := fun ti h => by cases h; exact ⟨y47, .inl rfl⟩
theorem y48 : mkTI Tryd.prog 48 = some ⟨1, 8, .nfunc, .func, []⟩ := by kernel_rfl
theorem q48 : TyQ Tryd.prog 48 (some ⟨1, 8, .nfunc, .func, []⟩) := fun ti h => by cases h; exact ⟨y48, .inl rfl⟩
theorem y50 : mkTI Tryd.prog 50 = some ⟨1, 8, .nfunc, .func, []⟩ := by kernel_rfl
theorem q50 : TyQ Tryd.prog 50 (some ⟨1, 8, .nfunc, .func, []⟩) := fun ti h => by cases h; exact ⟨y50, .inl rfl⟩
theorem y51 : mkTI Tryd.prog 51 = some ⟨1, 8, .nfunc, .func, []⟩ := by kernel_rfl
theorem q51 : TyQ Tryd.prog 51 (some ⟨1, 8, .nfunc, .func, []⟩) := fun ti h => by cases h; exact ⟨y51, .inl rfl⟩
theorem y52 : mkTI Tryd.prog 52 = some ⟨1, 8, .nfunc, .func, []⟩ := by kernel_rfl
theorem q52 : TyQ Tryd.prog 52 (some ⟨1, 8, .nfunc, .func, []⟩) := fun ti h => by cases h; exact ⟨y52, .inl rfl⟩
theorem y53 : mkTI Tryd.prog 53 = some ⟨2, 16, (.agg [(.int .i64 0), (.int .i64 0)]), (.strct [(0, 2, 1), (1, 2, 1)]), []⟩ := by kernel_rfl
theorem q53 : TyQ Tryd.prog 53 (some ⟨2, 16, (.agg [(.int .i64 0), (.int .i64 0)]), (.strct [(0, 2, 1), (1, 2, 1)]), []⟩) := fun ti h => by cases h; exact ⟨y53, .inl rfl⟩
theorem y54 : mkTI Tryd.prog 54 = some ⟨2, 16, (.agg [(.int .i64 0), (.int .i64 0)]), (.strct [(0, 2, 1), (1, 2, 1)]), []⟩ := by kernel_rfl
theorem z54 : flT Tryd.prog 54 = [.i, .i] := by kernel_rfl
theorem q54 : TyQ Tryd.prog 54 (some ⟨2, 16, (.agg [(.int .i64 0), (.int .i64 0)]), (.strct [(0, 2, 1), (1, 2, 1)]), [.i, .i]⟩) := fun ti h => by cases h; exact ⟨y54, .inr z54⟩
theorem y56 : mkTI Tryd.prog 56 = some ⟨1, 8, .nfunc, .func, []⟩ := by kernel_rfl
theorem q56 : TyQ Tryd.prog 56 (some ⟨1, 8, .nfunc, .func, []⟩) := fun ti h => by cases h; exact ⟨y56, .inl rfl⟩
theorem y57 : mkTI Tryd.prog 57 = some ⟨1, 8, .nfunc, .func, []⟩ := by kernel_rfl
theorem q57 : TyQ Tryd.prog 57 (some ⟨1, 8, .nfunc, .func, []⟩) := fun ti h => by cases h; exact ⟨y57, .inl rfl⟩
theorem y58 : mkTI Tryd.prog 58 = some ⟨1, 8, .nfunc, .func, []⟩ := by kernel_rfl
theorem q58 : TyQ Tryd.prog 58 (some ⟨1, 8, .nfunc, .func, []⟩) := fun ti h => by cases h; exact ⟨y58, .inl rfl⟩
theorem y60 : mkTI Tryd.prog 60 = some ⟨1, 8, .nfunc, .func, []⟩ := by kernel_rfl
theorem q60 : TyQ Tryd.prog 60 (some ⟨1, 8, .nfunc, .func, []⟩) := fun ti h => by cases h; exact ⟨y60, .inl rfl⟩
theorem y61 : mkTI Tryd.prog 61 = some ⟨1, 8, .nfunc, .func, []⟩ := by kernel_rfl
theorem q61 : TyQ Tryd.prog 61 (some ⟨1, 8, .nfunc, .func, []⟩) := fun ti h => by cases h; exact ⟨y61, .inl rfl⟩
theorem y62 : mkTI Tryd.prog 62 = some ⟨1, 8, .nfunc, .func, []⟩ := by kernel_rfl
theorem q62 : TyQ Tryd.prog 62 (some ⟨1, 8, .nfunc, .func, []⟩) := fun ti h => by cases h; exact ⟨y62, .inl rfl⟩
theorem y63 : mkTI Tryd.prog 63 = some ⟨1, 24, .nslice, (.slice 5), []⟩ := by kernel_rfl
theorem q63 : TyQ Tryd.prog 63 (some ⟨1, 24, .nslice, (.slice 5), []⟩) := fun ti h => by cases h; exact ⟨y63, .inl rfl⟩
theorem y64 : mkTI Tryd.prog 64 = some ⟨1, 8, .nfunc, .func, []⟩ := by kernel_rfl
theorem q64 : TyQ Tryd.prog 64 (some ⟨1, 8, .nfunc, .func, []⟩) := fun ti h => by cases h; exact ⟨y64, .inl rfl⟩
theorem y65 : mkTI Tryd.prog 65 = some ⟨1, 8, .nfunc, .func, []⟩ := by kernel_rfl
theorem q65 : TyQ Tryd.prog 65 (some ⟨1, 8, .nfunc, .func, []⟩) := fun ti h => by cases h; exact ⟨y65, .inl rfl⟩
theorem y66 : mkTI Tryd.prog 66 = some ⟨1, 8, .nfunc, .func, []⟩ := by kernel_rfl
theorem q66 : TyQ Tryd.prog 66 (some ⟨1, 8, .nfunc, .func, []⟩) := fun ti h => by cases h; exact ⟨y66, .inl rfl⟩
theorem y67 : mkTI Tryd.prog 67 = some ⟨1, 8, .nfunc, .func, []⟩ := by kernel_rfl
theorem q67 : TyQ Tryd.prog 67 (some ⟨1, 8, .nfunc, .func, []⟩) := fun ti h => by cases h; exact ⟨y67, .inl rfl⟩
theorem y68 : mkTI Tryd.prog 68 = some ⟨1, 8, .nfunc, .func, []⟩ := by kernel_rfl
theorem q68 : TyQ Tryd.prog 68 (some ⟨1, 8, .nfunc, .func, []⟩) := fun ti h => by cases h; exact ⟨y68, .inl rfl⟩
theorem y69 : mkTI Tryd.prog 69 = some ⟨1, 8, .nfunc, .func, []⟩ := by kernel_rfl
theorem q69 : TyQ Tryd.prog 69 (some ⟨1, 8, .nfunc, .func, []⟩) := fun ti h => by cases h; exact ⟨y69, .inl rfl⟩
theorem y70 : mkTI Tryd.prog 70 = some ⟨1, 8, .nfunc, .func, []⟩ := by kernel_rfl
theorem q70 : TyQ Tryd.prog 70 (some ⟨1, 8, .nfunc, .func, []⟩) := fun ti h => by cases h; exact ⟨y70, .inl rfl⟩
theorem y71 : mkTI Tryd.prog 71 = some ⟨1, 8, .nfunc, .func, []⟩ := by kernel_rfl
theorem q71 : TyQ Tryd.prog 71 (some ⟨1, 8, .nfunc, .func, []⟩) := fun ti h => by cases h; exact ⟨y71, .inl rfl⟩
theorem y72 : mkTI Tryd.prog 72 = some ⟨1, 8, .nfunc, .func, []⟩ := by kernel_rfl
theorem q72 : TyQ Tryd.prog 72 (some ⟨1, 8, .nfunc, .func, []⟩) := fun ti h => by cases h; exact ⟨y72, .inl rfl⟩
theorem y73 : mkTI Tryd.prog 73 = some ⟨1, 8, .nfunc, .func, []⟩ := by kernel_rfl
theorem q73 : TyQ Tryd.prog 73 (some ⟨1, 8, .nfunc, .func, []⟩) := fun ti h => by cases h; exact ⟨y73, .inl rfl⟩
theorem y74 : mkTI Tryd.prog 74 = some ⟨1, 8, .nfunc, .func, []⟩ := by kernel_rfl
theorem q74 : TyQ Tryd.prog 74 (some ⟨1, 8, .nfunc, .func, []⟩) := fun ti h => by cases h; exact ⟨y74, .inl rfl⟩
theorem y75 : mkTI Tryd.prog 75 = some ⟨1, 8, .nfunc, .func, []⟩ := by kernel_rfl
theorem q75 : TyQ Tryd.prog 75 (some ⟨1, 8, .nfunc, .func, []⟩) := fun ti h => by cases h; exact ⟨y75, .inl rfl⟩
theorem y76 : mkTI Tryd.prog 76 = some ⟨1, 8, .nfunc, .func, []⟩ := by kernel_rfl
theorem q76 : TyQ Tryd.prog 76 (some ⟨1, 8, .nfunc, .func, []⟩) := fun ti h => by cases h; exact ⟨y76, .inl rfl⟩
theorem y77 : mkTI Tryd.prog 77 = some ⟨1, 8, .nfunc, .func, []⟩ := by kernel_rfl
theorem q77 : TyQ Tryd.prog 77 (some ⟨1, 8, .nfunc, .func, []⟩) := fun ti h => by cases h; exact ⟨y77, .inl rfl⟩
theorem y78 : mkTI Tryd.prog 78 = some ⟨1, 8, .nfunc, .func, []⟩ := by kernel_rfl
theorem q78 : TyQ Tryd.prog 78 (some ⟨1, 8, .nfunc, .func, []⟩) := fun ti h => by cases h; exact ⟨y78, .inl rfl⟩
theorem y79 : mkTI Tryd.prog 79 = some ⟨1, 8, .nptr, (.ptr 112), []⟩ := by kernel_rfl
theorem q79 : TyQ Tryd.prog 79 (some ⟨1, 8, .nptr, (.ptr 112), []⟩) := fun ti h => by cases h; exact ⟨y79, .inl rfl⟩
theorem y81 : mkTI Tryd.prog 81 = some ⟨1, 8, .nfunc, .func, []⟩ := by kernel_rfl
theorem q81 : TyQ Tryd.prog 81 (some ⟨1, 8, .nfunc, .func, []⟩) := fun ti h => by cases h; exact ⟨y81, .inl rfl⟩
theorem y82 : mkTI Tryd.prog 82 = some ⟨1, 8, .nfunc, .func, []⟩ := by kernel_rfl
theorem q82 : TyQ Tryd.prog 82 (some ⟨1, 8, .nfunc, .func, []⟩) := fun ti h => by cases h; exact ⟨y82, .inl rfl⟩
theorem y83 : mkTI Tryd.prog 83 = some ⟨2, 16, (.agg [(.int .i64 0), (.int .i64 0)]), (.strct [(0, 3, 1), (1, 3, 1)]), []⟩ := by kernel_rfl
theorem q83 : TyQ Tryd.prog 83 (some ⟨2, 16, (.agg [(.int .i64 0), (.int .i64 0)]), (.strct [(0, 3, 1), (1, 3, 1)]), []⟩) := fun ti h => by cases h; exact ⟨y83, .inl rfl⟩
theorem y84 : mkTI Tryd.prog 84 = some ⟨2, 16, (.agg [(.int .i64 0), (.int .i64 0)]), (.strct [(0, 3, 1), (1, 3, 1)]), []⟩ := by kernel_rfl
theorem z84 : flT Tryd.prog 84 = [.i, .i] := by kernel_rfl
theorem q84 : TyQ Tryd.prog 84 (some ⟨2, 16, (.agg [(.int .i64 0), (.int .i64 0)]), (.strct [(0, 3, 1), (1, 3, 1)]), [.i, .i]⟩) := fun ti h => by cases h; exact ⟨y84, .inr z84⟩
theorem y86 : mkTI Tryd.prog 86 = some ⟨1, 8, .nfunc, .func, []⟩ := by kernel_rfl
theorem q86 : TyQ Tryd.prog 86 (some ⟨1, 8, .nfunc, .func, []⟩) := fun ti h => by cases h; exact ⟨y86, .inl rfl⟩
theorem y87 : mkTI Tryd.prog 87 = some ⟨1, 8, .nfunc, .func, []⟩ := by kernel_rfl
theorem q87 : TyQ Tryd.prog 87 (some ⟨1, 8, .nfunc, .func, []⟩) := fun ti h => by cases h; exact ⟨y87, .inl rfl⟩
theorem y88 : mkTI Tryd.prog 88 = some ⟨1, 8, .nfunc, .func, []⟩ := by kernel_rfl
theorem q88 : TyQ Tryd.prog 88 (some ⟨1, 8, .nfunc, .func, []⟩) := fun ti h => by cases h; exact ⟨y88, .inl rfl⟩
theorem y89 : mkTI Tryd.prog 89 = some ⟨1, 8, .nfunc, .func, []⟩ := by kernel_rfl
theorem q89 : TyQ Tryd.prog 89 (some ⟨1, 8, .nfunc, .func, []⟩) := fun ti h => by cases h; exact ⟨y89, .inl rfl⟩
theorem y90 : mkTI Tryd.prog 90 = some ⟨1, 8, .nfunc, .func, []⟩ := by kernel_rfl
theorem q90 : TyQ Tryd.prog 90 (some ⟨1, 8, .nfunc, .func, []⟩) := fun ti h => by cases h; exact ⟨y90, .inl rfl⟩
theorem y91 : mkTI Tryd.prog 91 = some ⟨1, 8, .nfunc, .func, []⟩ := by kernel_rfl
theorem q91 : TyQ Tryd.prog 91 (some ⟨1, 8, .nfunc, .func, []⟩) := fun ti h => by cases h; exact ⟨y91, .inl rfl⟩
theorem y92 : mkTI Tryd.prog 92 = some ⟨1, 8, .nfunc, .func, []⟩ := by kernel_rfl
theorem q92 : TyQ Tryd.prog 92 (some ⟨1, 8, .nfunc, .func, []⟩) := fun ti h => by cases h; exact ⟨y92, .inl rfl⟩
theorem y93 : mkTI Tryd.prog 93 = some ⟨1, 8, .nfunc, .func, []⟩ := by kernel_rfl
theorem q93 : TyQ Tryd.prog 93 (some ⟨1, 8, .nfunc, .func, []⟩) := fun ti h => by cases h; exact ⟨y93, .inl rfl⟩
theorem y94 : mkTI Tryd.prog 94 = some ⟨1, 8, .nfunc, .func, []⟩ := by kernel_rfl
theorem q94 : TyQ Tryd.prog 94 (some ⟨1, 8, .nfunc, .func, []⟩) := fun ti h => by cases h; exact ⟨y94, .inl rfl⟩
theorem y95 : mkTI Tryd.prog 95 = some ⟨1, 8, .nfunc, .func, []⟩ := by kernel_rfl
theorem q95 : TyQ Tryd.prog 95 (some ⟨1, 8, .nfunc, .func, []⟩) := fun ti h => by cases h; exact ⟨y95, .inl rfl⟩
theorem y96 : mkTI Tryd.prog 96 = some ⟨16, 128, (.agg (rep 16 [(.int .i64 0)])), (.array 16 3), []⟩ := by kernel_rfl
theorem q96 : TyQ Tryd.prog 96 (some ⟨16, 128, (.agg (rep 16 [(.int .i64 0)])), (.array 16 3), []⟩) := fun ti h => by cases h; exact ⟨y96, .inl rfl⟩
theorem y97 : mkTI Tryd.prog 97 = some ⟨16, 128, (.agg (rep 16 [(.int .i64 0)])), (.array 16 3), []⟩ := by kernel_rfl
theorem z97 : flT Tryd.prog 97 = (List.replicate 16 .i) := by kernel_rfl
theorem q97 : TyQ Tryd.prog 97 (some ⟨16, 128, (.agg (rep 16 [(.int .i64 0)])), (.array 16 3), (List.replicate 16 .i)⟩) := fun ti h => by cases h; exact ⟨y97, .inr z97⟩
theorem y98 : mkTI Tryd.prog 98 = some ⟨1, 8, .nfunc, .func, []⟩ := by kernel_rfl
theorem q98 : TyQ Tryd.prog 98 (some ⟨1, 8, .nfunc, .func, []⟩) := fun ti h => by cases h; exact ⟨y98, .inl rfl⟩
theorem y99 : mkTI Tryd.prog 99 = some ⟨1, 8, .nfunc, .func, []⟩ := by kernel_rfl
theorem q99 : TyQ Tryd.prog 99 (some ⟨1, 8, .nfunc, .func, []⟩) := fun ti h => by cases h; exact ⟨y99, .inl rfl⟩
theorem y100 : mkTI Tryd.prog 100 = some ⟨1, 8, .nfunc, .func, []⟩ := by kernel_rfl
theorem q100 : TyQ Tryd.prog 100 (some ⟨1, 8, .nfunc, .func, []⟩) := fun ti h => by cases h; exact ⟨y100, .inl rfl⟩
theorem y101 : mkTI Tryd.prog 101 = some ⟨1, 8, .nfunc, .func, []⟩ := by kernel_rfl
theorem q101 : TyQ Tryd.prog 101 (some ⟨1, 8, .nfunc, .func, []⟩) := fun ti h => by cases h; exact ⟨y101, .inl rfl⟩
theorem y102 : mkTI Tryd.prog 102 = some ⟨1, 8, .nfunc, .func, []⟩ := by kernel_rfl
theorem q102 : TyQ Tryd.prog 102 (some ⟨1, 8, .nfunc, .func, []⟩) := fun ti h => by cases h; exact ⟨y102, .inl rfl⟩
theorem y103 : mkTI Tryd.prog 103 = some ⟨1, 8, .nfunc, .func, []⟩ := by kernel_rfl
theorem q103 : TyQ Tryd.prog 103 (some ⟨1, 8, .nfunc, .func, []⟩) := fun ti h => by cases h; exact ⟨y103, .inl rfl⟩
theorem y104 : mkTI Tryd.prog 104 = some ⟨1, 8, .nfunc, .func, []⟩ := by kernel_rfl
theorem q104 : TyQ Tryd.prog 104 (some ⟨1, 8, .nfunc, .func, []⟩) := fun ti h => by cases h; exact ⟨y104, .inl rfl⟩
theorem y106 : mkTI Tryd.prog 106 = some ⟨1, 8, .nfunc, .func, []⟩ := by kernel_rfl
theorem q106 : TyQ Tryd.prog 106 (some ⟨1, 8, .nfunc, .func, []⟩) := fun ti h => by cases h; exact ⟨y106, .inl rfl⟩
theorem y108 : mkTI Tryd.prog 108 = some ⟨1, 8, .nfunc, .func, []⟩ := by kernel_rfl
theorem q108 : TyQ Tryd.prog 108 (some ⟨1, 8, .nfunc, .func, []⟩) := fun ti h => by cases h; exact ⟨y108, .inl rfl⟩
theorem y109 : mkTI Tryd.prog 109 = some ⟨1, 8, .nfunc, .func, []⟩ := by kernel_rfl
theorem q109 : TyQ Tryd.prog 109 (some ⟨1, 8, .nfunc, .func, []⟩) := fun ti h => by cases h; exact ⟨y109, .inl rfl⟩
theorem y110 : mkTI Tryd.prog 110 = some ⟨1, 8, .nfunc, .func, []⟩ := by kernel_rfl
theorem q110 : TyQ Tryd.prog 110 (some ⟨1, 8, .nfunc, .func, []⟩) := fun ti h => by cases h; exact ⟨y110, .inl rfl⟩
theorem y111 : mkTI Tryd.prog 111 = some ⟨4, 64, (.agg [.nslice, .nslice, (.int .i64 0), (.int .i64 0)]), (.strct [(0, 24, 4)]), []⟩ := by kernel_rfl
theorem q111 : TyQ Tryd.prog 111 (some ⟨4, 64, (.agg [.nslice, .nslice, (.int .i64 0), (.int .i64 0)]), (.strct [(0, 24, 4)]), []⟩) := fun ti h => by cases h; exact ⟨y111, .inl rfl⟩
theorem y112 : mkTI Tryd.prog 112 = some ⟨4, 64, (.agg [.nslice, .nslice, (.int .i64 0), (.int .i64 0)]), (.strct [(0, 24, 4)]), []⟩ := by kernel_rfl
theorem q112 : TyQ Tryd.prog 112 (some ⟨4, 64, (.agg [.nslice, .nslice, (.int .i64 0), (.int .i64 0)]), (.strct [(0, 24, 4)]), []⟩) := fun ti h => by cases h; exact ⟨y112, .inl rfl⟩
theorem y113 : mkTI Tryd.prog 113 = some ⟨1, 8, .nfunc, .func, []⟩ := by kernel_rfl
theorem q113 : TyQ Tryd.prog 113 (some ⟨1, 8, .nfunc, .func, []⟩) := fun ti h => by cases h; exact ⟨y113, .inl rfl⟩
theorem y114 : mkTI Tryd.prog 114 = some ⟨1, 8, .nfunc, .func, []⟩ := by kernel_rfl
theorem q114 : TyQ Tryd.prog 114 (some ⟨1, 8, .nfunc, .func, []⟩) := fun ti h => by cases h; exact ⟨y114, .inl rfl⟩
theorem y115 : mkTI Tryd.prog 115 = some ⟨1, 8, .nfunc, .func, []⟩ := by kernel_rfl
theorem q115 : TyQ Tryd.prog 115 (some ⟨1, 8, .nfunc, .func, []⟩) := fun ti h => by cases h; exact ⟨y115, .inl rfl⟩
theorem y116 : mkTI Tryd.prog 116 = some ⟨1, 8, .nfunc, .func, []⟩ := by kernel_rfl
theorem q116 : TyQ Tryd.prog 116 (some ⟨1, 8, .nfunc, .func, []⟩) := fun ti h => by cases h; exact ⟨y116, .inl rfl⟩
theorem y117 : mkTI Tryd.prog 117 = some ⟨1, 8, .nfunc, .func, []⟩ := by kernel_rfl
theorem q117 : TyQ Tryd.prog 117 (some ⟨1, 8, .nfunc, .func, []⟩) := fun ti h => by cases h; exact ⟨y117, .inl rfl⟩
theorem y118 : mkTI Tryd.prog 118 = some ⟨1, 8, .nfunc, .func, []⟩ := by kernel_rfl
theorem q118 : TyQ Tryd.prog 118 (some ⟨1, 8, .nfunc, .func, []⟩) := fun ti h => by cases h; exact ⟨y118, .inl rfl⟩
theorem y119 : mkTI Tryd.prog 119 = some ⟨1, 8, .nfunc, .func, []⟩ := by kernel_rfl
theorem q119 : TyQ Tryd.prog 119 (some ⟨1, 8, .nfunc, .func, []⟩) := fun ti h => by cases h; exact ⟨y119, .inl rfl⟩
theorem y120 : mkTI Tryd.prog 120 = some ⟨1, 8, .nfunc, .func, []⟩ := by kernel_rfl
theorem q120 : TyQ Tryd.prog 120 (some ⟨1, 8, .nfunc, .func, []⟩) := fun ti h => by cases h; exact ⟨y120, .inl rfl⟩
theorem y122 : mkTI Tryd.prog 122 = some ⟨1, 8, .nfunc, .func, []⟩ := by kernel_rfl
theorem q122 : TyQ Tryd.prog 122 (some ⟨1, 8, .nfunc, .func, []⟩) := fun ti h => by cases h; exact ⟨y122, .inl rfl⟩
theorem y123 : mkTI Tryd.prog 123 = some ⟨1, 24, .nslice, (.slice 45), []⟩ := by kernel_rfl
theorem q123 : TyQ Tryd.prog 123 (some ⟨1, 24, .nslice, (.slice 45), []⟩) := fun ti h => by cases h; exact ⟨y123, .inl rfl⟩
theorem y124 : mkTI Tryd.prog 124 = some ⟨1, 8, .nfunc, .func, []⟩ := by kernel_rfl
theorem q124 : TyQ Tryd.prog 124 (some ⟨1, 8, .nfunc, .func, []⟩) := fun ti h => by cases h; exact ⟨y124, .inl rfl⟩
theorem y125 : mkTI Tryd.prog 125 = some ⟨1, 8, .nfunc, .func, []⟩ := by kernel_rfl
theorem q125 : TyQ Tryd.prog 125 (some ⟨1, 8, .nfunc, .func, []⟩) := fun ti h => by cases h; exact ⟨y125, .inl rfl⟩
theorem y126 : mkTI Tryd.prog 126 = some ⟨1, 8, .nfunc, .func, []⟩ := by kernel_rfl
theorem q126 : TyQ Tryd.prog 126 (some ⟨1, 8, .nfunc, .func, []⟩) := fun ti h => by cases h; exact ⟨y126, .inl rfl⟩
theorem y127 : mkTI Tryd.prog 127 = some ⟨1, 8, .nfunc, .func, []⟩ := by kernel_rfl
theorem q127 : TyQ Tryd.prog 127 (some ⟨1, 8, .nfunc, .func, []⟩) := fun ti h => by cases h; exact ⟨y127, .inl rfl⟩
theorem y128 : mkTI Tryd.prog 128 = some ⟨1, 8, .nfunc, .func, []⟩ := by kernel_rfl
theorem q128 : TyQ Tryd.prog 128 (some ⟨1, 8, .nfunc, .func, []⟩) := fun ti h => by cases h; exact ⟨y128, .inl rfl⟩
theorem y129 : mkTI Tryd.prog 129 = some ⟨1, 8, .nmap, (.map 3 3), []⟩ := by kernel_rfl
theorem q129 : TyQ Tryd.prog 129 (some ⟨1, 8, .nmap, (.map 3 3), []⟩) := fun ti h => by cases h; exact ⟨y129, .inl rfl⟩
theorem y131 : mkTI Tryd.prog 131 = some ⟨1, 8, .nfunc, .func, []⟩ := by kernel_rfl
theorem q131 : TyQ Tryd.prog 131 (some ⟨1, 8, .nfunc, .func, []⟩) := fun ti h => by cases h; exact ⟨y131, .inl rfl⟩
theorem y132 : mkTI Tryd.prog 132 = some ⟨256, 256, (.agg (rep 256 [(.bool false)])), (.array 256 4), []⟩ := by kernel_rfl
theorem q132 : TyQ Tryd.prog 132 (some ⟨256, 256, (.agg (rep 256 [(.bool false)])), (.array 256 4), []⟩) := fun ti h => by cases h; exact ⟨y132, .inl rfl⟩
theorem y133 : mkTI Tryd.prog 133 = some ⟨256, 256, (.agg (rep 256 [(.bool false)])), (.array 256 4), []⟩ := by kernel_rfl
theorem q133 : TyQ Tryd.prog 133 (some ⟨256, 256, (.agg (rep 256 [(.bool false)])), (.array 256 4), []⟩) := fun ti h => by cases h; exact ⟨y133, .inl rfl⟩
theorem y135 : mkTI Tryd.prog 135 = some ⟨1, 8, .nfunc, .func, []⟩ := by kernel_rfl
theorem q135 : TyQ Tryd.prog 135 (some ⟨1, 8, .nfunc, .func, []⟩) := fun ti h => by cases h; exact ⟨y135, .inl rfl⟩
theorem y136 : mkTI Tryd.prog 136 = some ⟨1, 8, .nfunc, .func, []⟩ := by kernel_rfl
theorem q136 : TyQ Tryd.prog 136 (some ⟨1, 8, .nfunc, .func, []⟩) := fun ti h => by cases h; exact ⟨y136, .inl rfl⟩
theorem y137 : mkTI Tryd.prog 137 = some ⟨1, 8, .nptr, (.ptr 133), []⟩ := by kernel_rfl
theorem q137 : TyQ Tryd.prog 137 (some ⟨1, 8, .nptr, (.ptr 133), []⟩) := fun ti h => by cases h; exact ⟨y137, .inl rfl⟩
theorem y138 : mkTI Tryd.prog 138 = some ⟨1, 8, .nfunc, .func, []⟩ := by kernel_rfl
theorem q138 : TyQ Tryd.prog 138 (some ⟨1, 8, .nfunc, .func, []⟩) := fun ti h => by cases h; exact ⟨y138, .inl rfl⟩
theorem y139 : mkTI Tryd.prog 139 = some ⟨1, 8, .nmap, (.map 141 143), []⟩ := by kernel_rfl
theorem q139 : TyQ Tryd.prog 139 (some ⟨1, 8, .nmap, (.map 141 143), []⟩) := fun ti h => by cases h; exact ⟨y139, .inl rfl⟩
theorem y140 : mkTI Tryd.prog 140 = some ⟨3, 24, (.agg [(.int .i64 0), (.int .i64 0), (.int .i64 0)]), (.strct [(0, 84, 2), (2, 3, 1)]), []⟩ := by kernel_rfl
theorem q140 : TyQ Tryd.prog 140 (some ⟨3, 24, (.agg [(.int .i64 0), (.int .i64 0), (.int .i64 0)]), (.strct [(0, 84, 2), (2, 3, 1)]), []⟩) := fun ti h => by cases h; exact ⟨y140, .inl rfl⟩
theorem y141 : mkTI Tryd.prog 141 = some ⟨3, 24, (.agg [(.int .i64 0), (.int .i64 0), (.int .i64 0)]), (.strct [(0, 84, 2), (2, 3, 1)]), []⟩ := by kernel_rfl
theorem q141 : TyQ Tryd.prog 141 (some ⟨3, 24, (.agg [(.int .i64 0), (.int .i64 0), (.int .i64 0)]), (.strct [(0, 84, 2), (2, 3, 1)]), []⟩) := fun ti h => by cases h; exact ⟨y141, .inl rfl⟩
theorem y142 : mkTI Tryd.prog 142 = some ⟨2, 24, (.agg [(.int .i64 0), (.str [])]), (.strct [(0, 3, 1), (1, 9, 1)]), []⟩ := by kernel_rfl
theorem q142 : TyQ Tryd.prog 142 (some ⟨2, 24, (.agg [(.int .i64 0), (.str [])]), (.strct [(0, 3, 1), (1, 9, 1)]), []⟩) := fun ti h => by cases h; exact ⟨y142, .inl rfl⟩
theorem y143 : mkTI Tryd.prog 143 = some ⟨2, 24, (.agg [(.int .i64 0), (.str [])]), (.strct [(0, 3, 1), (1, 9, 1)]), []⟩ := by kernel_rfl
theorem q143 : TyQ Tryd.prog 143 (some ⟨2, 24, (.agg [(.int .i64 0), (.str [])]), (.strct [(0, 3, 1), (1, 9, 1)]), []⟩) := fun ti h => by cases h; exact ⟨y143, .inl rfl⟩
theorem y145 : mkTI Tryd.prog 145 = some ⟨1, 8, .nfunc, .func, []⟩ := by kernel_rfl
theorem q145 : TyQ Tryd.prog 145 (some ⟨1, 8, .nfunc, .func, []⟩) := fun ti h => by cases h; exact ⟨y145, .inl rfl⟩
theorem y146 : mkTI Tryd.prog 146 = some ⟨1, 8, .nfunc, .func, []⟩ := by kernel_rfl
theorem q146 : TyQ Tryd.prog 146 (some ⟨1, 8, .nfunc, .func, []⟩) := fun ti h => by cases h; exact ⟨y146, .inl rfl⟩
theorem y148 : mkTI Tryd.prog 148 = some ⟨1, 8, .nfunc, .func, []⟩ := by kernel_rfl
theorem q148 : TyQ Tryd.prog 148 (some ⟨1, 8, .nfunc, .func, []⟩) := fun ti h => by cases h; exact ⟨y148, .inl rfl⟩
theorem y149 : mkTI Tryd.prog 149 = some ⟨1, 8, .nfunc, .func, []⟩ := by kernel_rfl
theorem q149 : TyQ Tryd.prog 149 (some ⟨1, 8, .nfunc, .func, []⟩) := fun ti h => by cases h; exact ⟨y149, .inl rfl⟩
theorem y150 : mkTI Tryd.prog 150 = some ⟨1, 8, (.int .u64 0), (.int .u64), []⟩ := by kernel_rfl
theorem q150 : TyQ Tryd.prog 150 (some ⟨1, 8, (.int .u64 0), (.int .u64), []⟩) := fun ti h => by cases h; exact ⟨y150, .inl rfl⟩
theorem y151 : mkTI Tryd.prog 151 = some ⟨1, 24, .nslice, (.slice 143), []⟩ := by kernel_rfl
theorem q151 : TyQ Tryd.prog 151 (some ⟨1, 24, .nslice, (.slice 143), []⟩) := fun ti h => by cases h; exact ⟨y151, .inl rfl⟩
theorem y152 : mkTI Tryd.prog 152 = some ⟨1, 8, .nfunc, .func, []⟩ := by kernel_rfl
theorem q152 : TyQ Tryd.prog 152 (some ⟨1, 8, .nfunc, .func, []⟩) := fun ti h => by cases h; exact ⟨y152, .inl rfl⟩
theorem y153 : mkTI Tryd.prog 153 = some ⟨1, 8, .nfunc, .func, []⟩ := by kernel_rfl
theorem q153 : TyQ Tryd.prog 153 (some ⟨1, 8, .nfunc, .func, []⟩) := fun ti h => by cases h; exact ⟨y153, .inl rfl⟩
theorem y154 : mkTI Tryd.prog 154 = some ⟨1, 8, .nfunc, .func, []⟩ := by kernel_rfl
theorem q154 : TyQ Tryd.prog 154 (some ⟨1, 8, .nfunc, .func, []⟩) := fun ti h => by cases h; exact ⟨y154, .inl rfl⟩
theorem y155 : mkTI Tryd.prog 155 = some ⟨1, 4, (.int .u32 0), (.int .u32), []⟩ := by kernel_rfl
theorem q155 : TyQ Tryd.prog 155 (some ⟨1, 4, (.int .u32 0), (.int .u32), []⟩) := fun ti h => by cases h; exact ⟨y155, .inl rfl⟩
theorem y157 : mkTI Tryd.prog 157 = some ⟨1, 8, .nfunc, .func, []⟩ := by kernel_rfl
theorem q157 : TyQ Tryd.prog 157 (some ⟨1, 8, .nfunc, .func, []⟩) := fun ti h => by cases h; exact ⟨y157, .inl rfl⟩
theorem y158 : mkTI Tryd.prog 158 = some ⟨256, 256, (.agg (rep 256 [(.int .u8 0)])), (.array 256 5), []⟩ := by kernel_rfl
theorem q158 : TyQ Tryd.prog 158 (some ⟨256, 256, (.agg (rep 256 [(.int .u8 0)])), (.array 256 5), []⟩) := fun ti h => by cases h; exact ⟨y158, .inl rfl⟩
theorem y159 : mkTI Tryd.prog 159 = some ⟨2, 2, (.agg [(.int .u8 0), (.int .u8 0)]), (.strct [(0, 5, 1), (1, 5, 1)]), []⟩ := by kernel_rfl
theorem q159 : TyQ Tryd.prog 159 (some ⟨2, 2, (.agg [(.int .u8 0), (.int .u8 0)]), (.strct [(0, 5, 1), (1, 5, 1)]), []⟩) := fun ti h => by cases h; exact ⟨y159, .inl rfl⟩
theorem y160 : mkTI Tryd.prog 160 = some ⟨2, 2, (.agg [(.int .u8 0), (.int .u8 0)]), (.strct [(0, 5, 1), (1, 5, 1)]), []⟩ := by kernel_rfl
theorem q160 : TyQ Tryd.prog 160 (some ⟨2, 2, (.agg [(.int .u8 0), (.int .u8 0)]), (.strct [(0, 5, 1), (1, 5, 1)]), []⟩) := fun ti h => by cases h; exact ⟨y160, .inl rfl⟩
theorem y161 : mkTI Tryd.prog 161 = some ⟨32, 32, (.agg (rep 32 [(.int .u8 0)])), (.array 16 160), []⟩ := by kernel_rfl
theorem q161 : TyQ Tryd.prog 161 (some ⟨32, 32, (.agg (rep 32 [(.int .u8 0)])), (.array 16 160), []⟩) := fun ti h => by cases h; exact ⟨y161, .inl rfl⟩
theorem y162 : mkTI Tryd.prog 162 = some ⟨1, 8, .nfunc, .func, []⟩ := by kernel_rfl
theorem q162 : TyQ Tryd.prog 162 (some ⟨1, 8, .nfunc, .func, []⟩) := fun ti h => by cases h; exact ⟨y162, .inl rfl⟩
theorem y163 : mkTI Tryd.prog 163 = some ⟨1, 8, .nfunc, .func, []⟩ := by kernel_rfl
theorem q163 : TyQ Tryd.prog 163 (some ⟨1, 8, .nfunc, .func, []⟩) := fun ti h => by cases h; exact ⟨y163, .inl rfl⟩
theorem y164 : mkTI Tryd.prog 164 = some ⟨4, 40, (.agg [.nptr, .nptr, .nptr, (.str [])]), (.strct [(0, 17, 1), (1, 17, 1), (2, 17, 1), (3, 9, 1)]), []⟩ := by kernel_rfl
theorem q164 : TyQ Tryd.prog 164 (some ⟨4, 40, (.agg [.nptr, .nptr, .nptr, (.str [])]), (.strct [(0, 17, 1), (1, 17, 1), (2, 17, 1), (3, 9, 1)]), []⟩) := fun ti h => by cases h; exact ⟨y164, .inl rfl⟩
theorem y165 : mkTI Tryd.prog 165 = some ⟨4, 40, (.agg [.nptr, .nptr, .nptr, (.str [])]), (.strct [(0, 17, 1), (1, 17, 1), (2, 17, 1), (3, 9, 1)]), []⟩ := by kernel_rfl
theorem q165 : TyQ Tryd.prog 165 (some ⟨4, 40, (.agg [.nptr, .nptr, .nptr, (.str [])]), (.strct [(0, 17, 1), (1, 17, 1), (2, 17, 1), (3, 9, 1)]), []⟩) := fun ti h => by cases h; exact ⟨y165, .inl rfl⟩
theorem y166 : mkTI Tryd.prog 166 = some ⟨0, 0, (.agg []), (.array 0 16), []⟩ := by kernel_rfl
theorem q166 : TyQ Tryd.prog 166 (some ⟨0, 0, (.agg []), (.array 0 16), []⟩) := fun ti h => by cases h; exact ⟨y166, .inl rfl⟩
theorem y167 : mkTI Tryd.prog 167 = some ⟨0, 0, (.agg []), (.strct [(0, 166, 0)]), []⟩ := by kernel_rfl
theorem q167 : TyQ Tryd.prog 167 (some ⟨0, 0, (.agg []), (.strct [(0, 166, 0)]), []⟩) := fun ti h => by cases h; exact ⟨y167, .inl rfl⟩
theorem y168 : mkTI Tryd.prog 168 = some ⟨0, 0, (.agg []), (.strct [(0, 166, 0)]), []⟩ := by kernel_rfl
theorem q168 : TyQ Tryd.prog 168 (some ⟨0, 0, (.agg []), (.strct [(0, 166, 0)]), []⟩) := fun ti h => by cases h; exact ⟨y168, .inl rfl⟩
theorem y169 : mkTI Tryd.prog 169 = some ⟨1, 8, .nfunc, .func, []⟩ := by kernel_rfl
theorem q169 : TyQ Tryd.prog 169 (some ⟨1, 8, .nfunc, .func, []⟩) := fun ti h => by cases h; exact ⟨y169, .inl rfl⟩
theorem y170 : mkTI Tryd.prog 170 = some ⟨1, 1, (.int .u8 0), (.int .u8), []⟩ := by kernel_rfl
theorem q170 : TyQ Tryd.prog 170 (some ⟨1, 1, (.int .u8 0), (.int .u8), []⟩) := fun ti h => by cases h; exact ⟨y170, .inl rfl⟩
theorem y171 : mkTI Tryd.prog 171 = some ⟨1, 1, (.int .u8 0), (.int .u8), []⟩ := by kernel_rfl
theorem q171 : TyQ Tryd.prog 171 (some ⟨1, 1, (.int .u8 0), (.int .u8), []⟩) := fun ti h => by cases h; exact ⟨y171, .inl rfl⟩
theorem y172 : mkTI Tryd.prog 172 = some ⟨1, 8, .nfunc, .func, []⟩ := by kernel_rfl
theorem q172 : TyQ Tryd.prog 172 (some ⟨1, 8, .nfunc, .func, []⟩) := fun ti h => by cases h; exact ⟨y172, .inl rfl⟩
theorem y173 : mkTI Tryd.prog 173 = some ⟨1, 8, .nptr, (.ptr 5), []⟩ := by kernel_rfl
theorem q173 : TyQ Tryd.prog 173 (some ⟨1, 8, .nptr, (.ptr 5), []⟩) := fun ti h => by cases h; exact ⟨y173, .inl rfl⟩
theorem y174 : mkTI Tryd.prog 174 = some ⟨1, 4, (.int .i32 0), (.int .i32), []⟩ := by kernel_rfl
theorem q174 : TyQ Tryd.prog 174 (some ⟨1, 4, (.int .i32 0), (.int .i32), []⟩) := fun ti h => by cases h; exact ⟨y174, .inl rfl⟩
theorem y175 : mkTI Tryd.prog 175 = some ⟨1, 4, (.int .i32 0), (.int .i32), []⟩ := by kernel_rfl
theorem q175 : TyQ Tryd.prog 175 (some ⟨1, 4, (.int .i32 0), (.int .i32), []⟩) := fun ti h => by cases h; exact ⟨y175, .inl rfl⟩
theorem y176 : mkTI Tryd.prog 176 = some ⟨11, 48, (.agg [(.int .u64 0), (.int .u64 0), (.int .u32 0), (.int .u8 0), (.int .u8 0), (.int .u8 0), (.int .u8 0), .nfunc, .nptr, (.int .i32 0), (.int .i32 0)]), (.strct [(0, 12, 1), (1, 12, 1), (2, 155, 1), (3, 170, 1), (4, 5, 1), (5, 5, 1), (6, 171, 1), (7, 172, 1), (8, 173, 1), (9, 174, 1), (10, 175, 1)]), []⟩ := by kernel_rfl
theorem q176 : TyQ Tryd.prog 176 (some ⟨11, 48, (.agg [(.int .u64 0), (.int .u64 0), (.int .u32 0), (.int .u8 0), (.int .u8 0), (.int .u8 0), (.int .u8 0), .nfunc, .nptr, (.int .i32 0), (.int .i32 0)]), (.strct [(0, 12, 1), (1, 12, 1), (2, 155, 1), (3, 170, 1), (4, 5, 1), (5, 5, 1), (6, 171, 1), (7, 172, 1), (8, 173, 1), (9, 174, 1), (10, 175, 1)]), []⟩) := fun ti h => by cases h; exact ⟨y176, .inl rfl⟩
theorem y177 : mkTI Tryd.prog 177 = some ⟨11, 48, (.agg [(.int .u64 0), (.int .u64 0), (.int .u32 0), (.int .u8 0), (.int .u8 0), (.int .u8 0), (.int .u8 0), .nfunc, .nptr, (.int .i32 0), (.int .i32 0)]), (.strct [(0, 12, 1), (1, 12, 1), (2, 155, 1), (3, 170, 1), (4, 5, 1), (5, 5, 1), (6, 171, 1), (7, 172, 1), (8, 173, 1), (9, 174, 1), (10, 175, 1)]), []⟩ := by kernel_rfl
theorem q177 : TyQ Tryd.prog 177 (some ⟨11, 48, (.agg [(.int .u64 0), (.int .u64 0), (.int .u32 0), (.int .u8 0), (.int .u8 0), (.int .u8 0), (.int .u8 0), .nfunc, .nptr, (.int .i32 0), (.int .i32 0)]), (.strct [(0, 12, 1), (1, 12, 1), (2, 155, 1), (3, 170, 1), (4, 5, 1), (5, 5, 1), (6, 171, 1), (7, 172, 1), (8, 173, 1), (9, 174, 1), (10, 175, 1)]), []⟩) := fun ti h => by cases h; exact ⟨y177, .inl rfl⟩
theorem y178 : mkTI Tryd.prog 178 = some ⟨1, 8, .nptr, .other, []⟩ := by kernel_rfl
theorem q178 : TyQ Tryd.prog 178 (some ⟨1, 8, .nptr, .other, []⟩) := fun ti h => by cases h; exact ⟨y178, .inl rfl⟩
theorem g2 : FnQ Tryd.prog 2 (some ff2) := fun fi h => by cases h; kernel_rfl
theorem g3 : FnQ Tryd.prog 3 (some ff3) := fun fi h => by cases h; kernel_rfl
theorem g4 : FnQ Tryd.prog 4 (some ff4) := fun fi h => by cases h; kernel_rfl
theorem g5 : FnQ Tryd.prog 5 (some ff5) := fun fi h => by cases h; kernel_rfl
theorem g6 : FnQ Tryd.prog 6 (some ff6) := fun fi h => by cases h; kernel_rfl
theorem g7 : FnQ Tryd.prog 7 (some ff7) := fun fi h => by cases h; kernel_rfl
theorem g8 : FnQ Tryd.prog 8 (some ff8) := fun fi h => by cases h; kernel_rfl
theorem g9 : FnQ Tryd.prog 9 (some ff9) := fun fi h => by cases h; kernel_rfl
theorem g10 : FnQ Tryd.prog 10 (some ff10) := fun fi h => by cases h; kernel_rfl
theorem g11 : FnQ Tryd.prog 11 (some ff11) := fun fi h => by cases h; kernel_rfl
theorem g12 : FnQ Tryd.prog 12 (some ff12) := fun fi h => by cases h; kernel_rfl
theorem g13 : FnQ Tryd.prog 13 (some ff13) := fun fi h => by cases h; kernel_rfl
theorem g14 : FnQ Tryd.prog 14 (some ff14) := fun fi h => by cases h; kernel_rfl
theorem g15 : FnQ Tryd.prog 15 (some ff15) := fun fi h => by cases h; kernel_rfl
theorem g16 : FnQ Tryd.prog 16 (some ff16) := fun fi h => by cases h; kernel_rfl
theorem g17 : FnQ Tryd.prog 17 (some ff17) := fun fi h => by cases h; kernel_rfl
theorem g18 : FnQ Tryd.prog 18 (some ff18) := fun fi h => by cases h; kernel_rfl
theorem g19 : FnQ Tryd.prog 19 (some ff19) := fun fi h => by cases h; kernel_rfl
theorem g20 : FnQ Tryd.prog 20 (some ff20) := fun fi h => by cases h; kernel_rfl
theorem g21 : FnQ Tryd.prog 21 (some ff21) := fun fi h => by cases h; kernel_rfl
theorem g22 : FnQ Tryd.prog 22 (some ff22) := fun fi h => by cases h; kernel_rfl
theorem g23 : FnQ Tryd.prog 23 (some ff23) := fun fi h => by cases h; kernel_rfl
theorem g24 : FnQ Tryd.prog 24 (some ff24) := fun fi h => by cases h; kernel_rfl
theorem g25 : FnQ Tryd.prog 25 (some ff25) := fun fi h => by cases h; kernel_rfl
theorem g26 : FnQ Tryd.prog 26 (some ff26) := fun fi h => by cases h; kernel_rfl
theorem g27 : FnQ Tryd.prog 27 (some ff27) := fun fi h => by cases h; kernel_rfl
theorem g28 : FnQ Tryd.prog 28 (some ff28) := fun fi h => by cases h; kernel_rfl
theorem g29 : FnQ Tryd.prog 29 (some ff29) := fun fi h => by cases h; kernel_rfl
theorem g30 : FnQ Tryd.prog 30 (some ff30) := fun fi h => by cases h; kernel_rfl
theorem g31 : FnQ Tryd.prog 31 (some ff31) := fun fi h => by cases h; kernel_rfl
theorem g32 : FnQ Tryd.prog 32 (some ff32) := fun fi h => by cases h; kernel_rfl
theorem g33 : FnQ Tryd.prog 33 (some ff33) := fun fi h => by cases h; kernel_rfl
theorem g34 : FnQ Tryd.prog 34 (some ff34) := fun fi h => by cases h; kernel_rfl
theorem g35 : FnQ Tryd.prog 35 (some ff35) := fun fi h => by cases h; kernel_rfl
theorem g36 : FnQ Tryd.prog 36 (some ff36) := fun fi h => by cases h; kernel_rfl
theorem g37 : FnQ Tryd.prog 37 (some ff37) := fun fi h => by cases h; kernel_rfl
theorem g38 : FnQ Tryd.prog 38 (some ff38) := fun fi h => by cases h; kernel_rfl
theorem g39 : FnQ Tryd.prog 39 (some ff39) := fun fi h => by cases h; kernel_rfl
theorem g40 : FnQ Tryd.prog 40 (some ff40) := fun fi h => by cases h; kernel_rfl
theorem g41 : FnQ Tryd.prog 41 (some ff41) := fun fi h => by cases h; kernel_rfl
theorem g42 : FnQ Tryd.prog 42 (some ff42) := fun fi h => by cases h; kernel_rfl
theorem g43 : FnQ Tryd.prog 43 (some ff43) := fun fi h => by cases h; kernel_rfl
theorem g44 : FnQ Tryd.prog 44 (some ff44) := fun fi h => by cases h; kernel_rfl
theorem g45 : FnQ Tryd.prog 45 (some ff45) := fun fi h => by cases h; kernel_rfl
theorem g46 : FnQ Tryd.prog 46 (some ff46) := fun fi h => by cases h; kernel_rfl
theorem g47 : FnQ Tryd.prog 47 (some ff47) := fun fi h => by cases h; kernel_rfl
theorem g48 : FnQ Tryd.prog 48 (some ff48) := fun fi h => by cases h; kernel_rfl
theorem g49 : FnQ Tryd.prog 49 (some ff49) := fun fi h => by cases h; kernel_rfl
theorem g50 : FnQ Tryd.prog 50 (some ff50) := fun fi h => by cases h; kernel_rfl
theorem g51 : FnQ Tryd.prog 51 (some ff51) := fun fi h => by cases h; kernel_rfl
theorem g52 : FnQ Tryd.prog 52 (some ff52) := fun fi h => by cases h; kernel_rfl
theorem g53 : FnQ Tryd.prog 53 (some ff53) := fun fi h => by cases h; kernel_rfl
theorem g54 : FnQ Tryd.prog 54 (some ff54) := fun fi h => by cases h; kernel_rfl
theorem g55 : FnQ Tryd.prog 55 (some ff55) := fun fi h => by cases h; kernel_rfl
theorem g56 : FnQ Tryd.prog 56 (some ff56) := fun fi h => by cases h; kernel_rfl
theorem g57 : FnQ Tryd.prog 57 (some ff57) := fun fi h => by cases h; kernel_rfl
theorem g58 : FnQ Tryd.prog 58 (some ff58) := fun fi h => by cases h; kernel_rfl
theorem g59 : FnQ Tryd.prog 59 (some ff59) := fun fi h => by cases h; kernel_rfl
theorem g60 : FnQ Tryd.prog 60 (some ff60) := fun fi h => by cases h; kernel_rfl
theorem g61 : FnQ Tryd.prog 61 (some ff61) := fun fi h => by cases h; kernel_rfl
theorem g62 : FnQ Tryd.prog 62 (some ff62) := fun fi h => by cases h; kernel_rfl
theorem g63 : FnQ Tryd.prog 63 (some ff63) := fun fi h => by cases h; kernel_rfl
theorem g64 : FnQ Tryd.prog 64 (some ff64) := fun fi h => by cases h; kernel_rfl
theorem g65 : FnQ Tryd.prog 65 (some ff65) := fun fi h => by cases h; kernel_rfl
theorem g66 : FnQ Tryd.prog 66 (some ff66) := fun fi h => by cases h; kernel_rfl
theorem g67 : FnQ Tryd.prog 67 (some ff67) := fun fi h => by cases h; kernel_rfl
theorem g68 : FnQ Tryd.prog 68 (some ff68) := fun fi h => by cases h; kernel_rfl
theorem g69 : FnQ Tryd.prog 69 (some ff69) := fun fi h => by cases h; kernel_rfl
theorem g70 : FnQ Tryd.prog 70 (some ff70) := fun fi h => by cases h; kernel_rfl
theorem g71 : FnQ Tryd.prog 71 (some ff71) := fun fi h => by cases h; kernel_rfl
theorem g72 : FnQ Tryd.prog 72 (some ff72) := fun fi h => by cases h; kernel_rfl
theorem g73 : FnQ Tryd.prog 73 (some ff73) := fun fi h => by cases h; kernel_rfl
theorem g74 : FnQ Tryd.prog 74 (some ff74) := fun fi h => by cases h; kernel_rfl
theorem g75 : FnQ Tryd.prog 75 (some ff75) := fun fi h => by cases h; kernel_rfl
theorem g76 : FnQ Tryd.prog 76 (some ff76) := fun fi h => by cases h; kernel_rfl
theorem g77 : FnQ Tryd.prog 77 (some ff77) := fun fi h => by cases h; kernel_rfl
theorem g78 : FnQ Tryd.prog 78 (some ff78) := fun fi h => by cases h; kernel_rfl
theorem g79 : FnQ Tryd.prog 79 (some ff79) := fun fi h => by cases h; kernel_rfl
theorem g80 : FnQ Tryd.prog 80 (some ff80) := fun fi h => by cases h; kernel_rfl
theorem g81 : FnQ Tryd.prog 81 (some ff81) := fun fi h => by cases h; kernel_rfl
theorem g82 : FnQ Tryd.prog 82 (some ff82) := fun fi h => by cases h; kernel_rfl
theorem g83 : FnQ Tryd.prog 83 (some ff83) := fun fi h => by cases h; kernel_rfl
theorem g84 : FnQ Tryd.prog 84 (some ff84) := fun fi h => by cases h; kernel_rfl
theorem g86 : FnQ Tryd.prog 86 (some ff86) := fun fi h => by cases h; kernel_rfl
theorem g87 : FnQ Tryd.prog 87 (some ff87) := fun fi h => by cases h; kernel_rfl
theorem g88 : FnQ Tryd.prog 88 (some ff88) := fun fi h => by cases h; kernel_rfl
theorem g89 : FnQ Tryd.prog 89 (some ff89) := fun fi h => by cases h; kernel_rfl
theorem g90 : FnQ Tryd.prog 90 (some ff90) := fun fi h => by cases h; kernel_rfl
theorem g91 : FnQ Tryd.prog 91 (some ff91) := fun fi h => by cases h; kernel_rfl
theorem g92 : FnQ Tryd.prog 92 (some ff92) := fun fi h => by cases h; kernel_rfl
theorem g93 : FnQ Tryd.prog 93 (some ff93) := fun fi h => by cases h; kernel_rfl
theorem g94 : FnQ Tryd.prog 94 (some ff94) := fun fi h => by cases h; kernel_rfl
theorem g95 : FnQ Tryd.prog 95 (some ff95) := fun fi h => by cases h; kernel_rfl
theorem g96 : FnQ Tryd.prog 96 (some ff96) := fun fi h => by cases h; kernel_rfl
theorem g97 : FnQ Tryd.prog 97 (some ff97) := fun fi h => by cases h; kernel_rfl
theorem g98 : FnQ Tryd.prog 98 (some ff98) := fun fi h => by cases h; kernel_rfl
theorem g99 : FnQ Tryd.prog 99 (some ff99) := fun fi h => by cases h; kernel_rfl
theorem g100 : FnQ Tryd.prog 100 (some ff100) := fun fi h => by cases h; kernel_rfl
theorem g101 : FnQ Tryd.prog 101 (some ff101) := fun fi h => by cases h; kernel_rfl
theorem g102 : FnQ Tryd.prog 102 (some ff102) := fun fi h => by cases h; kernel_rfl
theorem g103 : FnQ Tryd.prog 103 (some ff103) := fun fi h => by cases h; kernel_rfl
theorem g104 : FnQ Tryd.prog 104 (some ff104) := fun fi h => by cases h; kernel_rfl
theorem g105 : FnQ Tryd.prog 105 (some ff105) := fun fi h => by cases h; kernel_rfl
theorem g106 : FnQ Tryd.prog 106 (some ff106) := fun fi h => by cases h; kernel_rfl
theorem g107 : FnQ Tryd.prog 107 (some ff107) := fun fi h => by cases h; kernel_rfl
theorem g108 : FnQ Tryd.prog 108 (some ff108) := fun fi h => by cases h; kernel_rfl
theorem g109 : FnQ Tryd.prog 109 (some ff109) := fun fi h => by cases h; kernel_rfl
theorem g110 : FnQ Tryd.prog 110 (some ff110) := fun fi h => by cases h; kernel_rfl
theorem g111 : FnQ Tryd.prog 111 (some ff111) := fun fi h => by cases h; kernel_rfl
theorem g112 : FnQ Tryd.prog 112 (some ff112) := fun fi h => by cases h; kernel_rfl
theorem g113 : FnQ Tryd.prog 113 (some ff113) := fun fi h => by cases h; kernel_rfl
theorem g114 : FnQ Tryd.prog 114 (some ff114) := fun fi h => by cases h; kernel_rfl
theorem g116 : FnQ Tryd.prog 116 (some ff116) := fun fi h => by cases h; kernel_rfl
theorem g117 : FnQ Tryd.prog 117 (some ff117) := fun fi h => by cases h; kernel_rfl
theorem g118 : FnQ Tryd.prog 118 (some ff118) := fun fi h => by cases h; kernel_rfl
theorem g119 : FnQ Tryd.prog 119 (some ff119) := fun fi h => by cases h; kernel_rfl
theorem g120 : FnQ Tryd.prog 120 (some ff120) := fun fi h => by cases h; kernel_rfl
theorem g121 : FnQ Tryd.prog 121 (some ff121) := fun fi h => by cases h; kernel_rfl
theorem g122 : FnQ Tryd.prog 122 (some ff122) := fun fi h => by cases h; kernel_rfl
theorem g124 : FnQ Tryd.prog 124 (some ff124) := fun fi h => by cases h; kernel_rfl
theorem g125 : FnQ Tryd.prog 125 (some ff125) := fun fi h => by cases h; kernel_rfl
theorem g126 : FnQ Tryd.prog 126 (some ff126) := fun fi h => by cases h; kernel_rfl
theorem g147 : FnQ Tryd.prog 147 (some ff147) := fun fi h => by cases h; kernel_rfl
theorem n1 (b : Nat) : TyQ Tryd.prog b none := fun _ h => by cases h
theorem n2 (b : Nat) : FnQ Tryd.prog b none := fun _ h => by cases h
theorem tyA : AllT (TyQ Tryd.prog) 8 0 1 ty := ⟨⟨⟨⟨⟨⟨⟨⟨q0, q128⟩, ⟨q64, (n1 _)⟩⟩, ⟨⟨q32, q160⟩, ⟨q96, (n1 _)⟩⟩⟩, ⟨⟨⟨q16, (n1 _)⟩, trivial⟩, ⟨⟨q48, q176⟩, ⟨q112, (n1 _)⟩⟩⟩⟩, ⟨⟨⟨⟨q8, q136⟩, ⟨q72, (n1 _)⟩⟩, ⟨⟨q40, q168⟩, ⟨q104, (n1 _)⟩⟩⟩, ⟨⟨⟨q24, q152⟩, ⟨q88, (n1 _)⟩⟩, ⟨⟨q56, (n1 _)⟩, ⟨q120, (n1 _)⟩⟩⟩⟩⟩, ⟨⟨⟨⟨⟨q4, q132⟩, ⟨q68, (n1 _)⟩⟩, ⟨⟨q36, q164⟩, ⟨q100, (n1 _)⟩⟩⟩, ⟨⟨⟨q20, q148⟩, ⟨q84, (n1 _)⟩⟩, ⟨⟨q52, (n1 _)⟩, ⟨q116, (n1 _)⟩⟩⟩⟩, ⟨⟨⟨⟨q12, q140⟩, ⟨q76, (n1 _)⟩⟩, ⟨⟨q44, q172⟩, ⟨q108, (n1 _)⟩⟩⟩, ⟨⟨⟨q28, (n1 _)⟩, ⟨q92, (n1 _)⟩⟩, ⟨⟨q60, (n1 _)⟩, ⟨q124, (n1 _)⟩⟩⟩⟩⟩⟩, ⟨⟨⟨⟨⟨⟨q2, (n1 _)⟩, ⟨q66, (n1 _)⟩⟩, ⟨⟨q34, q162⟩, ⟨q98, (n1 _)⟩⟩⟩, ⟨⟨⟨q18, q146⟩, ⟨q82, (n1 _)⟩⟩, ⟨⟨q50, q178⟩, ⟨q114, (n1 _)⟩⟩⟩⟩, ⟨⟨⟨⟨q10, q138⟩, ⟨q74, (n1 _)⟩⟩, ⟨⟨q42, q170⟩, ⟨q106, (n1 _)⟩⟩⟩, ⟨⟨⟨q26, q154⟩, ⟨q90, (n1 _)⟩⟩, ⟨⟨q58, (n1 _)⟩, ⟨q122, (n1 _)⟩⟩⟩⟩⟩, ⟨⟨⟨⟨⟨q6, (n1 _)⟩, ⟨q70, (n1 _)⟩⟩, ⟨⟨q38, q166⟩, ⟨q102, (n1 _)⟩⟩⟩, ⟨⟨⟨q22, q150⟩, ⟨q86, (n1 _)⟩⟩, ⟨⟨q54, (n1 _)⟩, ⟨q118, (n1 _)⟩⟩⟩⟩, ⟨⟨⟨⟨q14, q142⟩, ⟨q78, (n1 _)⟩⟩, ⟨⟨(n1 _), q174⟩, ⟨q110, (n1 _)⟩⟩⟩, ⟨⟨⟨q30, q158⟩, ⟨q94, (n1 _)⟩⟩, ⟨⟨q62, (n1 _)⟩, ⟨q126, (n1 _)⟩⟩⟩⟩⟩⟩⟩, ⟨⟨⟨⟨⟨⟨⟨q1, q129⟩, ⟨q65, (n1 _)⟩⟩, ⟨⟨(n1 _), q161⟩, ⟨q97, (n1 _)⟩⟩⟩, ⟨⟨⟨q17, q145⟩, ⟨q81, (n1 _)⟩⟩, ⟨⟨(n1 _), q177⟩, ⟨q113, (n1 _)⟩⟩⟩⟩, ⟨⟨⟨⟨q9, q137⟩, ⟨q73, (n1 _)⟩⟩, ⟨⟨q41, q169⟩, trivial⟩⟩, ⟨⟨⟨q25, q153⟩, ⟨q89, (n1 _)⟩⟩, ⟨⟨q57, (n1 _)⟩, trivial⟩⟩⟩⟩, ⟨⟨⟨⟨⟨q5, q133⟩, ⟨q69, (n1 _)⟩⟩, ⟨⟨q37, q165⟩, ⟨q101, (n1 _)⟩⟩⟩, ⟨⟨⟨q21, q149⟩, trivial⟩, ⟨⟨q53, (n1 _)⟩, ⟨q117, (n1 _)⟩⟩⟩⟩, ⟨⟨⟨⟨q13, q141⟩, ⟨q77, (n1 _)⟩⟩, ⟨⟨q45, q173⟩, ⟨q109, (n1 _)⟩⟩⟩, ⟨⟨⟨(n1 _), q157⟩, ⟨q93, (n1 _)⟩⟩, ⟨⟨q61, (n1 _)⟩, ⟨q125, (n1 _)⟩⟩⟩⟩⟩⟩, ⟨⟨⟨⟨⟨⟨q3, q131⟩, ⟨q67, (n1 _)⟩⟩, ⟨⟨(n1 _), q163⟩, ⟨q99, (n1 _)⟩⟩⟩, ⟨⟨⟨q19, (n1 _)⟩, ⟨q83, (n1 _)⟩⟩, ⟨⟨q51, (n1 _)⟩, ⟨q115, (n1 _)⟩⟩⟩⟩, ⟨⟨⟨⟨q11, q139⟩, ⟨q75, (n1 _)⟩⟩, ⟨⟨q43, q171⟩, trivial⟩⟩, ⟨⟨⟨q27, q155⟩, ⟨q91, (n1 _)⟩⟩, ⟨trivial, ⟨q123, (n1 _)⟩⟩⟩⟩⟩, ⟨⟨⟨⟨⟨q7, q135⟩, ⟨q71, (n1 _)⟩⟩, ⟨⟨(n1 _), q167⟩, ⟨q103, (n1 _)⟩⟩⟩, ⟨⟨⟨q23, q151⟩, ⟨q87, (n1 _)⟩⟩, ⟨trivial, ⟨q119, (n1 _)⟩⟩⟩⟩, ⟨⟨⟨⟨q15, q143⟩, ⟨q79, (n1 _)⟩⟩, ⟨⟨q47, q175⟩, ⟨q111, (n1 _)⟩⟩⟩, ⟨⟨⟨q31, q159⟩, ⟨q95, (n1 _)⟩⟩, ⟨⟨q63, (n1 _)⟩, ⟨q127, (n1 _)⟩⟩⟩⟩⟩⟩⟩⟩
theorem fnA : AllT (FnQ Tryd.prog) 8 0 1 fn := ⟨⟨⟨⟨⟨⟨⟨trivial, ⟨g64, (n2 _)⟩⟩, ⟨⟨g32, (n2 _)⟩, ⟨g96, (n2 _)⟩⟩⟩, ⟨⟨⟨g16, (n2 _)⟩, ⟨g80, (n2 _)⟩⟩, ⟨⟨g48, (n2 _)⟩, ⟨g112, (n2 _)⟩⟩⟩⟩, ⟨⟨⟨⟨g8, (n2 _)⟩, ⟨g72, (n2 _)⟩⟩, ⟨⟨g40, (n2 _)⟩, ⟨g104, (n2 _)⟩⟩⟩, ⟨⟨⟨g24, (n2 _)⟩, ⟨g88, (n2 _)⟩⟩, ⟨⟨g56, (n2 _)⟩, ⟨g120, (n2 _)⟩⟩⟩⟩⟩, ⟨⟨⟨⟨⟨g4, (n2 _)⟩, ⟨g68, (n2 _)⟩⟩, ⟨⟨g36, (n2 _)⟩, ⟨g100, (n2 _)⟩⟩⟩, ⟨⟨⟨g20, (n2 _)⟩, ⟨g84, (n2 _)⟩⟩, ⟨⟨g52, (n2 _)⟩, ⟨g116, (n2 _)⟩⟩⟩⟩, ⟨⟨⟨⟨g12, (n2 _)⟩, ⟨g76, (n2 _)⟩⟩, ⟨⟨g44, (n2 _)⟩, ⟨g108, (n2 _)⟩⟩⟩, ⟨⟨⟨g28, (n2 _)⟩, ⟨g92, (n2 _)⟩⟩, ⟨⟨g60, (n2 _)⟩, ⟨g124, (n2 _)⟩⟩⟩⟩⟩⟩, ⟨⟨⟨⟨⟨⟨g2, (n2 _)⟩, ⟨g66, (n2 _)⟩⟩, ⟨⟨g34, (n2 _)⟩, ⟨g98, (n2 _)⟩⟩⟩, ⟨⟨⟨g18, (n2 _)⟩, ⟨g82, (n2 _)⟩⟩, ⟨⟨g50, (n2 _)⟩, ⟨g114, (n2 _)⟩⟩⟩⟩, ⟨⟨⟨⟨g10, (n2 _)⟩, ⟨g74, (n2 _)⟩⟩, ⟨⟨g42, (n2 _)⟩, ⟨g106, (n2 _)⟩⟩⟩, ⟨⟨⟨g26, (n2 _)⟩, ⟨g90, (n2 _)⟩⟩, ⟨⟨g58, (n2 _)⟩, ⟨g122, (n2 _)⟩⟩⟩⟩⟩, ⟨⟨⟨⟨⟨g6, (n2 _)⟩, ⟨g70, (n2 _)⟩⟩, ⟨⟨g38, (n2 _)⟩, ⟨g102, (n2 _)⟩⟩⟩, ⟨⟨⟨g22, (n2 _)⟩, ⟨g86, (n2 _)⟩⟩, ⟨⟨g54, (n2 _)⟩, ⟨g118, (n2 _)⟩⟩⟩⟩, ⟨⟨⟨⟨g14, (n2 _)⟩, ⟨g78, (n2 _)⟩⟩, ⟨⟨g46, (n2 _)⟩, ⟨g110, (n2 _)⟩⟩⟩, ⟨⟨⟨g30, (n2 _)⟩, ⟨g94, (n2 _)⟩⟩, ⟨⟨g62, (n2 _)⟩, ⟨g126, (n2 _)⟩⟩⟩⟩⟩⟩⟩, ⟨⟨⟨⟨⟨⟨trivial, ⟨g65, (n2 _)⟩⟩, ⟨⟨g33, (n2 _)⟩, ⟨g97, (n2 _)⟩⟩⟩, ⟨⟨⟨g17, (n2 _)⟩, ⟨g81, (n2 _)⟩⟩, ⟨⟨g49, (n2 _)⟩, ⟨g113, (n2 _)⟩⟩⟩⟩, ⟨⟨⟨⟨g9, (n2 _)⟩, ⟨g73, (n2 _)⟩⟩, ⟨⟨g41, (n2 _)⟩, ⟨g105, (n2 _)⟩⟩⟩, ⟨⟨⟨g25, (n2 _)⟩, ⟨g89, (n2 _)⟩⟩, ⟨⟨g57, (n2 _)⟩, ⟨g121, (n2 _)⟩⟩⟩⟩⟩, ⟨⟨⟨⟨⟨g5, (n2 _)⟩, ⟨g69, (n2 _)⟩⟩, ⟨⟨g37, (n2 _)⟩, ⟨g101, (n2 _)⟩⟩⟩, ⟨⟨⟨g21, (n2 _)⟩, trivial⟩, ⟨⟨g53, (n2 _)⟩, ⟨g117, (n2 _)⟩⟩⟩⟩, ⟨⟨⟨⟨g13, (n2 _)⟩, ⟨g77, (n2 _)⟩⟩, ⟨⟨g45, (n2 _)⟩, ⟨g109, (n2 _)⟩⟩⟩, ⟨⟨⟨g29, (n2 _)⟩, ⟨g93, (n2 _)⟩⟩, ⟨⟨g61, (n2 _)⟩, ⟨g125, (n2 _)⟩⟩⟩⟩⟩⟩, ⟨⟨⟨⟨⟨⟨g3, (n2 _)⟩, ⟨g67, (n2 _)⟩⟩, ⟨⟨g35, (n2 _)⟩, ⟨g99, (n2 _)⟩⟩⟩, ⟨⟨⟨g19, g147⟩, ⟨g83, (n2 _)⟩⟩, ⟨⟨g51, (n2 _)⟩, trivial⟩⟩⟩, ⟨⟨⟨⟨g11, (n2 _)⟩, ⟨g75, (n2 _)⟩⟩, ⟨⟨g43, (n2 _)⟩, ⟨g107, (n2 _)⟩⟩⟩, ⟨⟨⟨g27, (n2 _)⟩, ⟨g91, (n2 _)⟩⟩, ⟨⟨g59, (n2 _)⟩, trivial⟩⟩⟩⟩, ⟨⟨⟨⟨⟨g7, (n2 _)⟩, ⟨g71, (n2 _)⟩⟩, ⟨⟨g39, (n2 _)⟩, ⟨g103, (n2 _)⟩⟩⟩, ⟨⟨⟨g23, (n2 _)⟩, ⟨g87, (n2 _)⟩⟩, ⟨⟨g55, (n2 _)⟩, ⟨g119, (n2 _)⟩⟩⟩⟩, ⟨⟨⟨⟨g15, (n2 _)⟩, ⟨g79, (n2 _)⟩⟩, ⟨⟨g47, (n2 _)⟩, ⟨g111, (n2 _)⟩⟩⟩, ⟨⟨⟨g31, (n2 _)⟩, ⟨g95, (n2 _)⟩⟩, ⟨⟨g63, (n2 _)⟩, trivial⟩⟩⟩⟩⟩⟩⟩
theorem x85 : ExtQ Tryd.prog 85 (.cnt) := fun args w => run_callFunc_extern (fn := Tryd.f85) (by kernel_rfl) (by kernel_rfl) (by kernel_rfl) (by kernel_rfl) (e := Extern.BytealgCount.count) (by kernel_rfl) args w
theorem x123 : ExtQ Tryd.prog 123 (.idx) := fun args w => run_callFunc_extern (fn := Tryd.f123) (by kernel_rfl) (by kernel_rfl) (by kernel_rfl) (by kernel_rfl) (e := Extern.BytealgIndexByte.indexByte) (by kernel_rfl) args w
theorem xs : ∀ g, ExtQ Tryd.prog g (ext g) := by
  intro g
  unfold ext
  split
  · exact x85
  · exact x123
  · trivial
theorem ok : Ok Tryd.prog pr := ok_of tyA fnA rfl rfl (by kernel_rfl) xs
theorem lb : LibOk Tryd.prog pr := lib_none fun _ => rfl
end Go.Proofs.YtafemfjhflfdeaaDoor.Pt
end
section
namespace Go.Proofs.YtafemfjhflfdeaaDoor
open Go Go.Proofs Go.Eng Go.Run Tab
set_option maxRecDepth 100000
set_option linter.unusedSimpArgs false
set_option linter.unusedVariables false
set_option maxHeartbeats 2000000
set_option linter.defProp false
def H8Fs118 := (And.intro (And.intro @agg143 (And.intro @by143 @inf143)) (And.intro @sz143 (And.intro @zero143 @Tryd.underlying151)))
def H8Fs119 := (And.intro (And.intro @agg3 @fo143_0) (And.intro @inf3 @sz3))
abbrev Wy := Int × ByteArray
def wyC (w : Wy) : List Value := [.int .i64 w.1, .string w.2]
def waysC (l : List Wy) : List Value := l.flatMap wyC
theorem waysC_length (l : List Wy) : (waysC l).length = l.length * 2 := by
  induction l with
  | nil => rfl
  | cons w l ih => rw [waysC, List.flatMap_cons, List.length_append, ← waysC, ih]; simp [wyC]; omega
theorem waysC_drop : ∀ (l : List Wy) (j : Nat), (waysC l).drop (j * 2) = waysC (l.drop j)
  | [], j => by simp [waysC]
  | w :: l, 0 => by simp
  | w :: l, j + 1 => by
    have := waysC_drop l j
    rw [show (j + 1) * 2 = j * 2 + 2 by omega]
    simp only [waysC, List.flatMap_cons, wyC, List.cons_append, List.nil_append, List.drop_succ_cons] at this ⊢
    exact this
theorem waysC_get (l : List Wy) (j : Nat) (hj : j < l.length) : ((waysC l).drop (j * 2)).take 2 = wyC l[j] := by
  rw [waysC_drop, List.drop_eq_getElem_cons hj]
  rfl
def bestW : List Wy → Wy
  | [] => (0, ⟨#[]⟩)
  | x :: xs => xs.foldl (fun o y => if y.1 < o.1 then y else o) x
theorem ways119 (x y : Wy) (h : Eng.Heap) : CallsH Tryd.prog 119 (#[] ++ #[.agg #[.int .i64 x.1, .string x.2], .agg #[.int .i64 y.1, .string y.2]] ++ #[]) h (fun v h' => v = .bool (decide (x.1 < y.1)) ∧ Ext h h') := by
  simp only [Array.append_empty, Array.empty_append]
  (refine CallsH_of_exec Tryd.func119 rfl bod119 ?_; simp only [Tryd.ntmps119, Tryd.results119, coreS, stK_some, splice, Value.cells, Value.oneCell', Nat.reduceAdd, Nat.reduceSub, Nat.reduceMul, Nat.reduceLeDiff, Int.reduceEq, Nat.reduceEqDiff, H8Fs119])
  exact ((Ext.refl h).push _).push _
theorem eltP_eltP {a : Option Addr} {m n : Nat} (hm : m ≠ 0) : eltP (eltP a m) n = eltP a (m + n) := by
  cases a with
  | none => rfl
  | some p =>
    have h : m + n ≠ 0 := by omega
    simp only [eltP, Option.map_some, addA, hm, h, if_false]
    by_cases hn : n = 0
    · subst hn; simp
    · simp only [hn, if_false, Nat.add_assoc]
theorem bestW_next (x : Wy) (xs : List Wy) {i : Nat} (hi : i < xs.length) : bestW (x :: xs.take (i + 1)) = if xs[i].1 < (bestW (x :: xs.take i)).1 then xs[i] else bestW (x :: xs.take i) := by
  rw [List.take_add_one, List.getElem?_eq_getElem hi]
  simp only [bestW, Option.toList_some, List.foldl_append, List.foldl_cons, List.foldl_nil]
  first | rfl | (split <;> simp_all)
theorem best118 (a : Option Addr) (n c : Nat) (l : List Wy) (h : Eng.Heap) (hr : Row h a (waysC l)) (hn : n = l.length) (h1 : 1 ≤ n) (h2 : n ≤ c) (h3 : n ≤ 1000) :
    CallsH Tryd.prog 118 #[.slice a n c, .func (.func 119) #[] #[]] h (fun v h' => v = .agg #[.int .i64 (bestW l).1, .string (bestW l).2] ∧ Ext h h') := by
  obtain ⟨x, xs, rfl⟩ : ∃ x xs, l = x :: xs := by
    cases l with
    | nil => simp at hn; omega
    | cons x xs => exact ⟨x, xs, rfl⟩
  have hsm : a.isSome = true := hr.isSome (by rw [waysC_length]; simp)
  obtain ⟨p, rfl⟩ := Option.isSome_iff_exists.1 hsm
  have c0 : ∀ {hh : Eng.Heap} (y : Ext h hh) (j : Nat) (hj : j < (x :: xs).length), cellsH hh (eltP (some p) (j * 2)) 2 = some [.int .i64 (x :: xs)[j].1, .string (x :: xs)[j].2] := fun y j hj => by
    have := (hr.ext y).cells (j := j * 2) (n := 2) (by rw [waysC_length]; omega) (by omega)
    rw [this, waysC_get _ _ hj]; rfl
  have cx : ∀ {hh : Eng.Heap} (y : Ext h hh), cellsH hh (eltP (some p) 0) 2 = some [.int .i64 x.1, .string x.2] := fun y => c0 y 0 (by simp)
  (refine CallsH_of_exec Tryd.func118 rfl bod118 ?_; simp only [Tryd.ntmps118, Tryd.results118, coreS, stK_some, splice, Value.cells, Value.oneCell', Nat.reduceAdd, Nat.reduceSub, Nat.reduceMul, Nat.reduceLeDiff, Int.reduceEq, Nat.reduceEqDiff, H8Fs118])
  have e0 := (Ext.refl h).push (.cells #[.int .i64 0, .string ByteArray.empty] 143)
  have z0 := push_new (h := h) (o := .cells #[.int .i64 0, .string ByteArray.empty] 143)
  simp only [cx e0, splice, coreS, Value.cells, Value.oneCell', Nat.reduceAdd, Nat.reduceSub, Nat.reduceMul, Nat.reduceLeDiff, Int.reduceEq, Nat.reduceEqDiff, H8Fs118]
  refine ⟨by omega, rfl, ?_⟩
  refine stK_abs pn1 (by simp) fun h3 k1 u3 => ?_
  simp only [splice] at k1
  have k0 := u3.get (push_old (o := .cells #[.int .i64 0, .string ByteArray.empty] 143) z0) (by omega)
  have e1 := u3.ext (e0.push (.cells #[.int .i64 0, .string ByteArray.empty] 143)) (by omega)
  have hxl : n = xs.length + 1 := by rw [hn]; rfl
  have ta : ((n : Int) - 1).toNat = xs.length := by omega
  simp only [ta, coreS, Value.cells, Value.oneCell', Nat.reduceAdd, Nat.reduceSub, Nat.reduceMul, Nat.reduceLeDiff, Int.reduceEq, Nat.reduceEqDiff, H8Fs118]
  refine ⟨by omega, by omega, by omega, by omega, ?_⟩
  refine WP_loopI [7, 14, 15, 16, 17, 18, 19, 20, 21, 22, 23] (fun g h' => ∃ i : Nat, i ≤ xs.length ∧ g 14 = .int .i64 (i : Int) ∧ h'[h.size + 1]? = some (.cells #[.int .i64 (bestW (x :: xs.take i)).1, .string (bestW (x :: xs.take i)).2] 143) ∧ h'[h.size]? = some (.cells #[.int .i64 0, .string ByteArray.empty] 143) ∧ Ext h h') (fun g _ => match g 14 with | .int _ q => xs.length - q.toNat | _ => 0) ⟨0, by omega, rfl, k1, k0, e1⟩ ?_
  rintro g h' ⟨i, hin, hg, g1, g0, y⟩
  by_cases hi : i < xs.length
  · have hcap : ¬ (c : Int) = 1 := by omega
    have hel : eltP (eltP (some p) 2) (i * 2) = eltP (some p) ((i + 1) * 2) := by rw [eltP_eltP (by omega)]; congr 1; omega
    have cy := c0 y (i + 1) (by simp; omega)
    rw [← hel, List.getElem_cons_succ] at cy
    have hs' := lt_of_get g1
    simp only [hg, hcap, if_false, cy, Int.toNat_natCast, Nat.one_mul, splice, coreS, Value.cells, Value.oneCell', Nat.reduceAdd, Nat.reduceSub, Nat.reduceMul, Nat.reduceLeDiff, Int.reduceEq, Nat.reduceEqDiff, H8Fs118]
    refine ⟨fun _ => ⟨⟨by omega, by omega⟩, rfl, ?_⟩, fun hge => absurd hge (by omega)⟩
    refine stK_abs (push_new (h := h') (o := .cells #[.int .i64 0, .string ByteArray.empty] 143)) (by simp) fun h5 g5 u5 => ?_
    simp only [splice] at g5
    have y5 := u5.ext (y.push (.cells #[.int .i64 0, .string ByteArray.empty] 143)) (by have := y.size; omega)
    have j1 := u5.get (push_old (o := .cells #[.int .i64 0, .string ByteArray.empty] 143) g1) (by omega)
    have j0 := u5.get (push_old (o := .cells #[.int .i64 0, .string ByteArray.empty] 143) g0) (by have := y.size; omega)
    simp only [g5, j1, splice, coreS, Value.cells, Value.oneCell', Nat.reduceAdd, Nat.reduceSub, Nat.reduceMul, Nat.reduceLeDiff, Int.reduceEq, Nat.reduceEqDiff, H8Fs118]
    refine CallsH.mono (ways119 xs[i] (bestW (x :: xs.take i)) h5) ?_
    rintro v h6 ⟨rfl, x6⟩
    have hbn := bestW_next x xs hi
    by_cases hlt : xs[i].1 < (bestW (x :: xs.take i)).1
    · rw [if_pos hlt] at hbn
      simp only [hlt, decide_true, x6.get g5, x6.get j1, splice, coreS, Value.cells, Value.oneCell', Nat.reduceAdd, Nat.reduceSub, Nat.reduceMul, Nat.reduceLeDiff, Int.reduceEq, Nat.reduceEqDiff, H8Fs118]
      refine stK_abs (x6.get j1) (by simp) fun h7 g7 u7 => ?_
      simp only [splice] at g7
      simp only [coreS, Value.cells, Value.oneCell', Nat.reduceAdd, Nat.reduceSub, Nat.reduceMul, Nat.reduceLeDiff, Int.reduceEq, Nat.reduceEqDiff, H8Fs118]
      refine ⟨by rw [inK_i64]; omega, roundK_mk (by kernel_rfl) ⟨i + 1, by omega, rfl, by rw [hbn]; exact g7, u7.get (x6.get j0) (by omega), u7.ext (y5.trans x6) (by omega)⟩ ?_⟩
      show xs.length - ((i : Int) + 1).toNat < xs.length - (i : Int).toNat
      omega
    · rw [if_neg hlt] at hbn
      simp only [hlt, decide_false, coreS, Value.cells, Value.oneCell', Nat.reduceAdd, Nat.reduceSub, Nat.reduceMul, Nat.reduceLeDiff, Int.reduceEq, Nat.reduceEqDiff, H8Fs118]
      refine ⟨by rw [inK_i64]; omega, roundK_mk (by kernel_rfl) ⟨i + 1, by omega, rfl, by rw [hbn]; exact x6.get j1, x6.get j0, y5.trans x6⟩ ?_⟩
      show xs.length - ((i : Int) + 1).toNat < xs.length - (i : Int).toNat
      omega
  · obtain rfl : i = xs.length := by omega
    rw [List.take_of_length_le (Nat.le_refl _)] at g1
    simp only [hg, g1, g0, splice, coreS, Value.cells, Value.oneCell', Nat.reduceAdd, Nat.reduceSub, Nat.reduceMul, Nat.reduceLeDiff, Int.reduceEq, Nat.reduceEqDiff, H8Fs118]
    refine ⟨fun hlt => absurd hlt (by omega), fun _ => ?_⟩
    refine stK_abs g0 (by simp) fun h5 g5 u5 => ?_
    simp only [splice] at g5
    simp only [g5, splice, coreS, Value.cells, Value.oneCell', Nat.reduceAdd, Nat.reduceSub, Nat.reduceMul, Nat.reduceLeDiff, Int.reduceEq, Nat.reduceEqDiff, H8Fs118]
    exact u5.ext y (Nat.le_refl _)
end Go.Proofs.YtafemfjhflfdeaaDoor
end
section
namespace Go.Proofs.YtafemfjhflfdeaaDoor
open Go Go.Proofs Go.Eng Go.Run Tab
set_option maxRecDepth 100000
set_option linter.unusedSimpArgs false
set_option linter.unusedVariables false
set_option maxHeartbeats 2000000
def stV (a : OV.Std) : Value := .agg #[.int .i64 (a.1.1 : Int), .int .i64 (a.1.2 : Int), .int .i64 (a.2 : Int)]
theorem e84 (x y : OV.Sp) (W : World) : (Op.equalIn 9999 84 (.agg #[.int .i64 (x.1 : Int), .int .i64 (x.2 : Int)]) (.agg #[.int .i64 (y.1 : Int), .int .i64 (y.2 : Int)])).run Tryd.prog W = .ok (decide (x = y)) W := by
  have hu := Tryd.underlying84
  rw [run_equalIn_struct W 9998 84 _ _ (by simp [Program.fieldsOf, hu]) (by kernel_rfl)]
  have hb := beqF_ints [(x.1 : Int), (x.2 : Int)] [(y.1 : Int), (y.2 : Int)] rfl
  have hd : decide ([(x.1 : Int), (x.2 : Int)] = [(y.1 : Int), (y.2 : Int)]) = decide (x = y) := by
    rw [decide_eq_decide]
    obtain ⟨a, b⟩ := x
    obtain ⟨c, d⟩ := y
    simp
    omega
  rw [hd] at hb
  exact beqF_fields (ι := fun _ => none) 9997 W (i := 0) (sc := [.i, .i]) (by kernel_rfl) (by simpa [Eng.ints] using vl_ints (ι := fun _ => none) [(x.1 : Int), (x.2 : Int)]) (by simpa [Eng.ints] using vl_ints (ι := fun _ => none) [(y.1 : Int), (y.2 : Int)]) hb
theorem p84 (x : OV.Sp) (k : Int) (W : World) : (part 84 #[.int .i64 (x.1 : Int), .int .i64 (x.2 : Int), .int .i64 k] 0).run Tryd.prog W = .ok (.agg #[.int .i64 (x.1 : Int), .int .i64 (x.2 : Int)]) W := by
  obtain ⟨v, hv, hr⟩ := part_sound (P := Tryd.prog) (t := 84) (cs := #[.int .i64 (x.1 : Int), .int .i64 (x.2 : Int), .int .i64 k]) (off := 0) (h := #[]) (K := fun v _ => v = .agg #[.int .i64 (x.1 : Int), .int .i64 (x.2 : Int)]) (by
    unfold partW
    rw [agg84]
    refine ⟨inf84, ?_⟩
    rw [sz84]
    rfl)
  rw [hr, hv]
theorem p3 (x : OV.Sp) (k : Int) (W : World) : (part 3 #[.int .i64 (x.1 : Int), .int .i64 (x.2 : Int), .int .i64 k] 2).run Tryd.prog W = .ok (.int .i64 k) W :=
  run_part_plain (P := Tryd.prog) W (by kernel_rfl) (by rfl)
theorem eq141 (a b : OV.Std) (W : World) : (Op.equal 141 (stV a) (stV b)).run Tryd.prog W = .ok (decide (a = b)) W := by
  have hu := Tryd.underlying141
  show (Op.equalIn 10000 141 (stV a) (stV b)).run Tryd.prog W = _
  unfold stV
  rw [run_equalIn_struct W 9999 141 _ _ (by simp [Program.fieldsOf, hu]) (by kernel_rfl)]
  simp only [Program.fieldsOf, hu]
  have q : (Op.equalIn 9999 3 (.int .i64 (a.2 : Int)) (.int .i64 (b.2 : Int))).run Tryd.prog W = .ok (decide ((a.2 : Int) = b.2)) W := by
    have q0 := sc_run (P := Tryd.prog) (ι := fun _ => none) (u := 3) (c := .i) (x := .int .i64 (a.2 : Int)) (y := .int .i64 (b.2 : Int)) (v := .int .i64 (a.2 : Int)) (w := .int .i64 (b.2 : Int)) (r := beqI (a.2 : Int) (b.2 : Int)) (by kernel_rfl) (by simp only [VR]) (by simp only [VR]) rfl 9998 W
    rw [beqI_eq] at q0
    exact q0
  have n1 : ("span" : String) ≠ "_" := by decide
  have n2 : ("left" : String) ≠ "_" := by decide
  have q2 := e84 a.1 b.1 W
  have hd : decide (a = b) = (decide (a.1 = b.1) && decide ((a.2 : Int) = b.2)) := by
    obtain ⟨a1, a2⟩ := a
    obtain ⟨b1, b2⟩ := b
    simp only [Prod.mk.injEq, Bool.decide_and, Int.ofNat_inj]
  rw [hd]
  by_cases h1 : a.1 = b.1
  · simp only [h1, decide_true] at q2
    simp [Op.eqFields, p84, p3, q2, q, h1, Result.andThen]
    by_cases h2 : (a.2 : Int) = b.2
    · rw [if_pos h2, decide_eq_true h2]
    · rw [if_neg h2, decide_eq_false h2]
  · simp only [h1, decide_false] at q2
    simp [Op.eqFields, p84, p3, q2, q, h1, Result.andThen]
theorem ask141 (a : OV.Std) (W : World) : ∀ (es : OV.Ents) (i : Nat), (Instr.findAsking 141 (stV a) (es.map (entM stV)) i).run Tryd.prog W = .ok (findA a es i) W
  | [], i => by simp [Instr.findAsking, findA]
  | x :: es, i => by
    have q1 := eq141 a x.1 W
    have ih := ask141 a W es (i + 1)
    by_cases hx : a = x.1
    · subst hx
      simp only [decide_true] at q1
      simp [Instr.findAsking, findA, entM, q1, Result.andThen]
    · simp only [hx, decide_false] at q1
      simp [Instr.findAsking, findA, entM, q1, hx, Result.andThen]
      exact ih
theorem check84 (x : OV.Sp) (em : Bool) (W : World) : (Instr.checkKey em 9999 84 (.agg #[.int .i64 (x.1 : Int), .int .i64 (x.2 : Int)])).run Tryd.prog W = .ok () W := by
  have hb := beqF_ints [(x.1 : Int), (x.2 : Int)] [(x.1 : Int), (x.2 : Int)] rfl
  rw [decide_eq_true rfl] at hb
  refine check_agg (ι := fun _ => none) (ti := (Pt.pr.ty 84).getD ⟨0, 0, .any, .other, []⟩) (x := .agg [.int .i64 (x.1 : Int), .int .i64 (x.2 : Int)]) (Pt.ok.tf (by kernel_rfl)) ?_ ?_ em 9997 W
  · simp only [VR]
    exact ⟨_, rfl, by simpa [Eng.ints] using vl_ints (ι := fun _ => none) [(x.1 : Int), (x.2 : Int)]⟩
  · exact hb
theorem check141 (a : OV.Std) (em : Bool) (W : World) : (Instr.checkKey em 10000 141 (stV a)).run Tryd.prog W = .ok () W := by
  have hu := Tryd.underlying141
  have p2 := check84 a.1 em W
  have p4 : (Instr.checkKey em 9999 3 (.int .i64 (a.2 : Int))).run Tryd.prog W = .ok () W := check_sc (c := .i) (by kernel_rfl) em 9998 _ W
  unfold stV
  rw [Instr.checkKey]
  simp only [Sem.run_bind, run_underlying hu, Result.andThen_ok]
  simp [p84, p3, p2, p4, Result.andThen]
theorem stays141 (a : OV.Std) (W : World) : (Instr.keyThatStays (stV a) (stV a)).run Tryd.prog W = .ok (stV a) W := by
  have hb : Instr.sameBits 10000 (stV a) (stV a) = true := by
    unfold stV
    show (_ && (List.all (List.zip _ _) fun (x, y) => Instr.sameBits 9999 x y)) = true
    simp [Instr.sameBits]
  simp [Instr.keyThatStays, hb]
theorem keysS : Keys Tryd.prog 141 stV where
  find a es W := by
    rw [run_findKey_eq W (by rw [Tryd.underlying141])]
    exact ask141 a W es 0
  check a em W := check141 a em W
  stays a W := stays141 a W
end Go.Proofs.YtafemfjhflfdeaaDoor
end
