/- The tie of the row of topRimmedTurn: each closed fact by itself. No condition. -/
import Derived.Test.YtljjlhbbcjjmlaaGreatDoorRows
import Derived.LaidByTextLater
import Derived.SevenTiedAt
import Derived.LaidSub
import Derived.LaidOnce
import Derived.KernelRfl
namespace Go.Proofs.YtljjlhbbcjjmlaaGreatDoor
open Go
set_option maxRecDepth 100000
theorem ty1:Tryz.prog.worded (varsWordLater true)=true:=by kernel_rfl
theorem ty2:Tryz.prog.worded (varsWordLater !true)=false:=by kernel_rfl
theorem ty3:Tryz.prog.worded rootWordLater=true:=by kernel_rfl
theorem ty4:([("unicode/utf8.acceptRanges",Rows.laid_unicode_utf8_acceptRanges)]:List (String×DataW Unit)).map (fun x=>Tryz.prog.kindOfLater x.1)=[LaidKind.data].map some:=by kernel_rfl
theorem ty5:(Tryz.prog.funcNamed "gosem.cut.vars").isSome=true:=by kernel_rfl
theorem ty6:varsNamedLaterB Tryz.prog (varsId Tryz.prog) ([("unicode/utf8.acceptRanges",Rows.laid_unicode_utf8_acceptRanges)]:List (String×DataW Unit))=true:=by kernel_rfl
theorem ty7:∀os tape,doorLeaves Tryz.prog 19 8 33 ([("unicode/utf8.acceptRanges",Rows.laid_unicode_utf8_acceptRanges)]:List (String×DataW Unit)) os tape=some (([("unicode/utf8.acceptRanges",Rows.laid_unicode_utf8_acceptRanges)]:List (String×DataW Unit)).filter fun x=>x.2.handleName?.isNone,(funcsListed ([("unicode/utf8.acceptRanges",Rows.laid_unicode_utf8_acceptRanges)]:List (String×DataW Unit))).map (·.2.funcsOut)):=fun _ _=>by kernel_rfl
theorem seatTie1:Tryz.prog.laidByTextLater [("unicode/utf8.acceptRanges",Rows.laid_unicode_utf8_acceptRanges)] [.data] true:=Program.laidByTextLater_by_one 19 8 33 ty1 ty2 ty3 ty4 ty5 ty6 ty7
theorem pin_laid_unicode_utf8_first:Tryz.pinned.checked.prog.pinnedFits "unicode/utf8.first" =true:=by kernel_rfl
theorem noOwnUnsafe:Tryz.pinned.checked.prog.headLifts.contains "ownunsafe" =false:=by kernel_rfl
theorem fits1:Tryz.pinned.checked.prog.listedFits [("unicode/utf8.acceptRanges",Rows.laid_unicode_utf8_acceptRanges),("unicode/utf8.first",Rows.laid_unicode_utf8_first)]=true:=by
 unfold Program.listedFits;rw[noOwnUnsafe];kernel_rfl
theorem tie:Tryz.prog.laidByTextLater [("unicode/utf8.acceptRanges",Rows.laid_unicode_utf8_acceptRanges)] [.data] true:=
 Program.laidByTextLater.sub seatTie1 ["unicode/utf8.acceptRanges"] (by kernel_rfl) (by kernel_rfl)
theorem topRimmedTurn_row_tie:Rows.topRimmedTurnRow.laidByTextAt .later Tryz.pinned [.data,.pinned] true:=
 OpenClaim.laidByTextAt_pinned rfl rfl tie rfl rfl rfl rfl (fun y hy _e=>by
  simp only[Rows.topRimmedTurnRow,List.zip_cons_cons,List.zip_nil_right,List.mem_cons,List.mem_nil_iff,or_false]at hy;rcases hy with rfl|rfl
  .cases _e
  .exact⟨pin_laid_unicode_utf8_first,by kernel_rfl⟩) fits1
end Go.Proofs.YtljjlhbbcjjmlaaGreatDoor
