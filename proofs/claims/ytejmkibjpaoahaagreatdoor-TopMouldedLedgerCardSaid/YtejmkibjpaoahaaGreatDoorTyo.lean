/- The tie of the row of topMouldedLedger: each closed fact by itself. No condition. -/
import Derived.Test.YtejmkibjpaoahaaGreatDoorRows
import Derived.LaidByTextLater
import Derived.SevenTiedAt
import Derived.LaidSub
import Derived.LaidOnce
import Derived.KernelRfl
namespace Go.Proofs.YtejmkibjpaoahaaGreatDoor
open Go
set_option maxRecDepth 100000
theorem ty1:Tryz.prog.worded (varsWordLater true)=true:=by kernel_rfl
theorem ty2:Tryz.prog.worded (varsWordLater !true)=false:=by kernel_rfl
theorem ty3:Tryz.prog.worded rootWordLater=true:=by kernel_rfl
theorem ty4:([("math/bits.deBruijn32tab",Rows.laid_math_bits_deBruijn32tab),("math/bits.deBruijn64tab",Rows.laid_math_bits_deBruijn64tab),("internal/strconv.uint64pow10",Rows.laid_internal_strconv_uint64pow10),("unicode/utf8.acceptRanges",Rows.laid_unicode_utf8_acceptRanges),("strconv.ErrRange",Rows.laid_strconv_ErrRange),("strconv.ErrSyntax",Rows.laid_strconv_ErrSyntax)]:List (String×DataW Unit)).map (fun x=>Tryz.prog.kindOfLater x.1)=[LaidKind.data,LaidKind.data,LaidKind.data,LaidKind.data,LaidKind.sentinel,LaidKind.sentinel].map some:=by kernel_rfl
theorem tg:Tryz.prog.funcNamed "gosem.cut.vars" =some 867:=by kernel_rfl
theorem kb0:Tryz.prog.kindBase "math/bits.deBruijn32tab" =some .data:=by kernel_rfl
theorem kb1:Tryz.prog.kindBase "math/bits.deBruijn64tab" =some .data:=by kernel_rfl
theorem kb2:Tryz.prog.kindBase "internal/strconv.uint64pow10" =some .data:=by kernel_rfl
theorem kb3:Tryz.prog.kindBase "unicode/utf8.acceptRanges" =some .data:=by kernel_rfl
theorem kb4:Tryz.prog.kindBase "strconv.ErrRange" =some .sentinel:=by kernel_rfl
theorem kb5:Tryz.prog.kindBase "strconv.ErrSyntax" =some .sentinel:=by kernel_rfl
theorem th:varsNamedLaterB Tryz.prog 867 ([("math/bits.deBruijn32tab",Rows.laid_math_bits_deBruijn32tab),("math/bits.deBruijn64tab",Rows.laid_math_bits_deBruijn64tab),("internal/strconv.uint64pow10",Rows.laid_internal_strconv_uint64pow10),("unicode/utf8.acceptRanges",Rows.laid_unicode_utf8_acceptRanges),("strconv.ErrRange",Rows.laid_strconv_ErrRange),("strconv.ErrSyntax",Rows.laid_strconv_ErrSyntax)]:List (String×DataW Unit))=true:=by
 unfold varsNamedLaterB;simp only[List.all_cons,List.all_nil,kb0,kb1,kb2,kb3,kb4,kb5];kernel_rfl
theorem td:∀os tape,varsDone Tryz.prog 72 867 os tape=true:=fun _ _=>by kernel_rfl
theorem t1:∀os tape,(DataW.laidRun Tryz.prog (varsWorld Tryz.prog 72 867 os tape).memory 8 (([("math/bits.deBruijn32tab",Rows.laid_math_bits_deBruijn32tab),("math/bits.deBruijn64tab",Rows.laid_math_bits_deBruijn64tab),("internal/strconv.uint64pow10",Rows.laid_internal_strconv_uint64pow10),("unicode/utf8.acceptRanges",Rows.laid_unicode_utf8_acceptRanges),("strconv.ErrRange",Rows.laid_strconv_ErrRange),("strconv.ErrSyntax",Rows.laid_strconv_ErrSyntax)]:List (String×DataW Unit)).map (·.1))).map (·.1)=some ([("math/bits.deBruijn32tab",Rows.laid_math_bits_deBruijn32tab),("math/bits.deBruijn64tab",Rows.laid_math_bits_deBruijn64tab),("internal/strconv.uint64pow10",Rows.laid_internal_strconv_uint64pow10),("unicode/utf8.acceptRanges",Rows.laid_unicode_utf8_acceptRanges),("strconv.ErrRange",Rows.laid_strconv_ErrRange),("strconv.ErrSyntax",Rows.laid_strconv_ErrSyntax)]:List (String×DataW Unit)):=fun _ _=>by kernel_rfl
theorem t2:∀os tape,(DataW.laidRun Tryz.prog (varsWorld Tryz.prog 72 867 os tape).memory 8 (([("math/bits.deBruijn32tab",Rows.laid_math_bits_deBruijn32tab),("math/bits.deBruijn64tab",Rows.laid_math_bits_deBruijn64tab),("internal/strconv.uint64pow10",Rows.laid_internal_strconv_uint64pow10),("unicode/utf8.acceptRanges",Rows.laid_unicode_utf8_acceptRanges),("strconv.ErrRange",Rows.laid_strconv_ErrRange),("strconv.ErrSyntax",Rows.laid_strconv_ErrSyntax)]:List (String×DataW Unit)).map (·.1))).map (fun x=>decide x.2.Nodup&&laidRowsB Tryz.prog (varsWorld Tryz.prog 72 867 os tape).memory x.2)=some true:=fun _ _=>by kernel_rfl
theorem seatTie1:Tryz.prog.laidByTextLater [("math/bits.deBruijn32tab",Rows.laid_math_bits_deBruijn32tab),("math/bits.deBruijn64tab",Rows.laid_math_bits_deBruijn64tab),("internal/strconv.uint64pow10",Rows.laid_internal_strconv_uint64pow10),("unicode/utf8.acceptRanges",Rows.laid_unicode_utf8_acceptRanges),("strconv.ErrRange",Rows.laid_strconv_ErrRange),("strconv.ErrSyntax",Rows.laid_strconv_ErrSyntax)] [.data,.data,.data,.data,.sentinel,.sentinel] true:=Program.laidByTextLater_of_run 867 72 8 ty1 ty2 ty3 ty4 tg th td t1 t2
theorem pin_laid_unicode_utf8_first:Tryz.pinned.checked.prog.pinnedFits "unicode/utf8.first" =true:=by kernel_rfl
theorem noOwnUnsafe:Tryz.pinned.checked.prog.headLifts.contains "ownunsafe" =false:=by kernel_rfl
theorem fits1:Tryz.pinned.checked.prog.listedFits [("math/bits.deBruijn32tab",Rows.laid_math_bits_deBruijn32tab),("math/bits.deBruijn64tab",Rows.laid_math_bits_deBruijn64tab),("internal/strconv.uint64pow10",Rows.laid_internal_strconv_uint64pow10),("unicode/utf8.acceptRanges",Rows.laid_unicode_utf8_acceptRanges),("strconv.ErrRange",Rows.laid_strconv_ErrRange),("strconv.ErrSyntax",Rows.laid_strconv_ErrSyntax),("unicode/utf8.first",Rows.laid_unicode_utf8_first)]=true:=by
 unfold Program.listedFits;rw[noOwnUnsafe];kernel_rfl
theorem tie:Tryz.prog.laidByTextLater [("math/bits.deBruijn32tab",Rows.laid_math_bits_deBruijn32tab),("math/bits.deBruijn64tab",Rows.laid_math_bits_deBruijn64tab),("internal/strconv.uint64pow10",Rows.laid_internal_strconv_uint64pow10),("unicode/utf8.acceptRanges",Rows.laid_unicode_utf8_acceptRanges),("strconv.ErrRange",Rows.laid_strconv_ErrRange),("strconv.ErrSyntax",Rows.laid_strconv_ErrSyntax)] [.data,.data,.data,.data,.sentinel,.sentinel] true:=
 Program.laidByTextLater.sub seatTie1 ["math/bits.deBruijn32tab","math/bits.deBruijn64tab","internal/strconv.uint64pow10","unicode/utf8.acceptRanges","strconv.ErrRange","strconv.ErrSyntax"] (by kernel_rfl) (by kernel_rfl)
theorem topMouldedLedger_row_tie:Rows.topMouldedLedgerRow.laidByTextAt .later Tryz.pinned [.data,.data,.data,.data,.sentinel,.sentinel,.pinned] true:=
 OpenClaim.laidByTextAt_pinned rfl rfl tie rfl rfl rfl rfl (fun y hy _e=>by
  simp only[Rows.topMouldedLedgerRow,List.zip_cons_cons,List.zip_nil_right,List.mem_cons,List.mem_nil_iff,or_false]at hy;rcases hy with rfl|rfl|rfl|rfl|rfl|rfl|rfl
  .cases _e
  .cases _e
  .cases _e
  .cases _e
  .cases _e
  .cases _e
  .exact⟨pin_laid_unicode_utf8_first,by kernel_rfl⟩) fits1
end Go.Proofs.YtejmkibjpaoahaaGreatDoor
