/- The facts on the types and functions of the program that the walks use, each closed. No condition. -/
import Derived.Test.YtljjlhbbcjjmlaaGreatDoorProg
import Derived.Test.YtljjlhbbcjjmlaaGreatDoorEng
import Derived.KernelRfl
namespace Go.Proofs.YtljjlhbbcjjmlaaGreatDoor.Tab
open Go Go.Proofs Go.Eng
theorem sz2:szT Tryz.prog 2=1:=by kernel_rfl
theorem by2:iA Tryz.prog 2=8:=by kernel_rfl
theorem inf2:(Tryz.prog.info? 2).isSome=true:=by kernel_rfl
theorem agg2:zF Tryz.prog 2=some false:=by kernel_rfl
theorem sz3:szT Tryz.prog 3=1:=by kernel_rfl
theorem by3:iA Tryz.prog 3=8:=by kernel_rfl
theorem inf3:(Tryz.prog.info? 3).isSome=true:=by kernel_rfl
theorem agg3:zF Tryz.prog 3=some false:=by kernel_rfl
theorem zero3:dJ Tryz.prog 3=some (.int .i64 0):=by kernel_rfl
theorem sz5:szT Tryz.prog 5=1:=by kernel_rfl
theorem by5:iA Tryz.prog 5=1:=by kernel_rfl
theorem inf5:(Tryz.prog.info? 5).isSome=true:=by kernel_rfl
theorem agg5:zF Tryz.prog 5=some false:=by kernel_rfl
theorem sz25:szT Tryz.prog 25=1:=by kernel_rfl
theorem by25:iA Tryz.prog 25=24:=by kernel_rfl
theorem inf25:(Tryz.prog.info? 25).isSome=true:=by kernel_rfl
theorem agg25:zF Tryz.prog 25=some false:=by kernel_rfl
theorem zero25:dJ Tryz.prog 25=some (.slice none 0 0):=by kernel_rfl
theorem sz26:szT Tryz.prog 26=1:=by kernel_rfl
theorem inf26:(Tryz.prog.info? 26).isSome=true:=by kernel_rfl
theorem agg26:zF Tryz.prog 26=some false:=by kernel_rfl
theorem zero26:dJ Tryz.prog 26=some (.int .i64 0):=by kernel_rfl
theorem sz51:szT Tryz.prog 51=1:=by kernel_rfl
theorem inf51:(Tryz.prog.info? 51).isSome=true:=by kernel_rfl
theorem agg51:zF Tryz.prog 51=some false:=by kernel_rfl
theorem sz54:szT Tryz.prog 54=1:=by kernel_rfl
theorem inf54:(Tryz.prog.info? 54).isSome=true:=by kernel_rfl
theorem agg54:zF Tryz.prog 54=some false:=by kernel_rfl
theorem sz58:szT Tryz.prog 58=1:=by kernel_rfl
theorem inf58:(Tryz.prog.info? 58).isSome=true:=by kernel_rfl
theorem agg58:zF Tryz.prog 58=some false:=by kernel_rfl
theorem zero58:dJ Tryz.prog 58=some (.nilFunc):=by kernel_rfl
theorem zero60:dJ Tryz.prog 60=some (.agg #[.int .i64 0,.slice none 0 0]):=by kernel_rfl
theorem okf60:jh Tryz.prog 60=true:=by kernel_rfl
theorem fps60_0:mF Tryz.prog 60 0=some (0,1):=by kernel_rfl
theorem fo60_1:jG Tryz.prog 60 1=some 1:=by kernel_rfl
theorem fps60_1:mF Tryz.prog 60 1=some (1,1):=by kernel_rfl
theorem sz62:szT Tryz.prog 62=4:=by kernel_rfl
theorem inf62:(Tryz.prog.info? 62).isSome=true:=by kernel_rfl
theorem agg62:zF Tryz.prog 62=some true:=by kernel_rfl
theorem zero64:dJ Tryz.prog 64=some (.agg #[.int .i64 0,.slice none 0 0,.int .i64 0,.int .i64 0,.int .i64 0,.int .i64 0]):=by kernel_rfl
theorem okf64:jh Tryz.prog 64=true:=by kernel_rfl
theorem fo64_0:jG Tryz.prog 64 0=some 0:=by kernel_rfl
theorem fps64_0:mF Tryz.prog 64 0=some (0,2):=by kernel_rfl
theorem fo64_1:jG Tryz.prog 64 1=some 2:=by kernel_rfl
theorem fo104_0:jG Tryz.prog 104 0=some 0:=by kernel_rfl
theorem fo108_0:jG Tryz.prog 108 0=some 0:=by kernel_rfl
theorem fo108_1:jG Tryz.prog 108 1=some 1:=by kernel_rfl
theorem fo108_2:jG Tryz.prog 108 2=some 13:=by kernel_rfl
theorem bod3:qA Tryz.prog 3=true:=by kernel_rfl
theorem bod6:qA Tryz.prog 6=true:=by kernel_rfl
theorem bod7:qA Tryz.prog 7=true:=by kernel_rfl
theorem bod8:qA Tryz.prog 8=true:=by kernel_rfl
theorem bod9:qA Tryz.prog 9=true:=by kernel_rfl
theorem bod10:qA Tryz.prog 10=true:=by kernel_rfl
theorem bod11:qA Tryz.prog 11=true:=by kernel_rfl
theorem bod21:qA Tryz.prog 21=true:=by kernel_rfl
theorem bod23:qA Tryz.prog 23=true:=by kernel_rfl
theorem bod24:qA Tryz.prog 24=true:=by kernel_rfl
theorem bod25:qA Tryz.prog 25=true:=by kernel_rfl
theorem bod26:qA Tryz.prog 26=true:=by kernel_rfl
theorem bod27:qA Tryz.prog 27=true:=by kernel_rfl
theorem bod28:qA Tryz.prog 28=true:=by kernel_rfl
theorem bod29:qA Tryz.prog 29=true:=by kernel_rfl
theorem bod30:qA Tryz.prog 30=true:=by kernel_rfl
theorem bod58:qA Tryz.prog 58=true:=by kernel_rfl
theorem bod59:qA Tryz.prog 59=true:=by kernel_rfl
theorem bod60:qA Tryz.prog 60=true:=by kernel_rfl
theorem bod61:qA Tryz.prog 61=true:=by kernel_rfl
theorem bod62:qA Tryz.prog 62=true:=by kernel_rfl
theorem bod63:qA Tryz.prog 63=true:=by kernel_rfl
theorem bod64:qA Tryz.prog 64=true:=by kernel_rfl
theorem bod65:qA Tryz.prog 65=true:=by kernel_rfl
theorem bod66:qA Tryz.prog 66=true:=by kernel_rfl
theorem bod67:qA Tryz.prog 67=true:=by kernel_rfl
theorem bod68:qA Tryz.prog 68=true:=by kernel_rfl
theorem bod79:qA Tryz.prog 79=true:=by kernel_rfl
theorem bod117:qA Tryz.prog 117=true:=by kernel_rfl
theorem bod118:qA Tryz.prog 118=true:=by kernel_rfl
theorem bod119:qA Tryz.prog 119=true:=by kernel_rfl
theorem bod120:qA Tryz.prog 120=true:=by kernel_rfl
theorem bod181:qA Tryz.prog 181=true:=by kernel_rfl
end Go.Proofs.YtljjlhbbcjjmlaaGreatDoor.Tab
