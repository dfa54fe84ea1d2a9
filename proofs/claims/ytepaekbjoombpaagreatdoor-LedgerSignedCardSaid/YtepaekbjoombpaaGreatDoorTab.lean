/- The facts on the types and functions of the program that the walks use, each closed. No condition. -/
import Derived.Test.YtepaekbjoombpaaGreatDoorProg
import Derived.Test.YtepaekbjoombpaaGreatDoorEng
import Derived.KernelRfl
namespace Go.Proofs.YtepaekbjoombpaaGreatDoor.Tab
open Go Go.Proofs Go.Eng
theorem sz2 : szT Tryz.prog 2 = 1 := by kernel_rfl
theorem by2 : bytesT Tryz.prog 2 = 8 := by kernel_rfl
theorem inf2 : (Tryz.prog.info? 2).isSome = true := by kernel_rfl
theorem agg2 : aggT Tryz.prog 2 = some false := by kernel_rfl
theorem zero2 : zeroT Tryz.prog 2 = some (.int .i64 0) := by kernel_rfl
theorem sz3 : szT Tryz.prog 3 = 1 := by kernel_rfl
theorem by3 : bytesT Tryz.prog 3 = 8 := by kernel_rfl
theorem inf3 : (Tryz.prog.info? 3).isSome = true := by kernel_rfl
theorem agg3 : aggT Tryz.prog 3 = some false := by kernel_rfl
theorem zero3 : zeroT Tryz.prog 3 = some (.int .i64 0) := by kernel_rfl
theorem sz4 : szT Tryz.prog 4 = 1 := by kernel_rfl
theorem by4 : bytesT Tryz.prog 4 = 1 := by kernel_rfl
theorem inf4 : (Tryz.prog.info? 4).isSome = true := by kernel_rfl
theorem agg4 : aggT Tryz.prog 4 = some false := by kernel_rfl
theorem zero4 : zeroT Tryz.prog 4 = some (.bool false) := by kernel_rfl
theorem sz5 : szT Tryz.prog 5 = 1 := by kernel_rfl
theorem by5 : bytesT Tryz.prog 5 = 1 := by kernel_rfl
theorem inf5 : (Tryz.prog.info? 5).isSome = true := by kernel_rfl
theorem agg5 : aggT Tryz.prog 5 = some false := by kernel_rfl
theorem zero5 : zeroT Tryz.prog 5 = some (.int .u8 0) := by kernel_rfl
theorem sz9 : szT Tryz.prog 9 = 1 := by kernel_rfl
theorem by9 : bytesT Tryz.prog 9 = 16 := by kernel_rfl
theorem inf9 : (Tryz.prog.info? 9).isSome = true := by kernel_rfl
theorem agg9 : aggT Tryz.prog 9 = some false := by kernel_rfl
theorem zero9 : zeroT Tryz.prog 9 = some (.string ByteArray.empty) := by kernel_rfl
theorem sz21 : szT Tryz.prog 21 = 1 := by kernel_rfl
theorem by21 : bytesT Tryz.prog 21 = 4 := by kernel_rfl
theorem inf21 : (Tryz.prog.info? 21).isSome = true := by kernel_rfl
theorem agg21 : aggT Tryz.prog 21 = some false := by kernel_rfl
theorem zero21 : zeroT Tryz.prog 21 = some (.int .i32 0) := by kernel_rfl
theorem sz22 : szT Tryz.prog 22 = 1 := by kernel_rfl
theorem by22 : bytesT Tryz.prog 22 = 24 := by kernel_rfl
theorem inf22 : (Tryz.prog.info? 22).isSome = true := by kernel_rfl
theorem agg22 : aggT Tryz.prog 22 = some false := by kernel_rfl
theorem zero22 : zeroT Tryz.prog 22 = some (.slice none 0 0) := by kernel_rfl
theorem sz24 : szT Tryz.prog 24 = 3 := by kernel_rfl
theorem by24 : bytesT Tryz.prog 24 = 40 := by kernel_rfl
theorem inf24 : (Tryz.prog.info? 24).isSome = true := by kernel_rfl
theorem agg24 : aggT Tryz.prog 24 = some true := by kernel_rfl
theorem zero24 : zeroT Tryz.prog 24 = some (.agg #[.int .i64 0, .int .i64 0, .slice none 0 0]) := by kernel_rfl
theorem okf24 : okFields Tryz.prog 24 = true := by kernel_rfl
theorem fo24_0 : fieldOff Tryz.prog 24 0 = some 0 := by kernel_rfl
theorem fps24_0 : fieldPS Tryz.prog 24 0 = some (0, 1) := by kernel_rfl
theorem fot24_0 : fieldOT Tryz.prog 24 0 = some (0, 3) := by kernel_rfl
theorem fo24_1 : fieldOff Tryz.prog 24 1 = some 1 := by kernel_rfl
theorem fps24_1 : fieldPS Tryz.prog 24 1 = some (1, 1) := by kernel_rfl
theorem fot24_1 : fieldOT Tryz.prog 24 1 = some (1, 3) := by kernel_rfl
theorem fo24_2 : fieldOff Tryz.prog 24 2 = some 2 := by kernel_rfl
theorem fps24_2 : fieldPS Tryz.prog 24 2 = some (2, 1) := by kernel_rfl
theorem fot24_2 : fieldOT Tryz.prog 24 2 = some (2, 22) := by kernel_rfl
theorem sz26 : szT Tryz.prog 26 = 4 := by kernel_rfl
theorem by26 : bytesT Tryz.prog 26 = 32 := by kernel_rfl
theorem inf26 : (Tryz.prog.info? 26).isSome = true := by kernel_rfl
theorem agg26 : aggT Tryz.prog 26 = some true := by kernel_rfl
theorem zero26 : zeroT Tryz.prog 26 = some (.agg #[.int .i64 0, .int .i64 0, .int .i64 0, .int .i64 0]) := by kernel_rfl
theorem okf26 : okFields Tryz.prog 26 = true := by kernel_rfl
theorem fo26_0 : fieldOff Tryz.prog 26 0 = some 0 := by kernel_rfl
theorem fps26_0 : fieldPS Tryz.prog 26 0 = some (0, 1) := by kernel_rfl
theorem fot26_0 : fieldOT Tryz.prog 26 0 = some (0, 3) := by kernel_rfl
theorem fo26_1 : fieldOff Tryz.prog 26 1 = some 1 := by kernel_rfl
theorem fps26_1 : fieldPS Tryz.prog 26 1 = some (1, 1) := by kernel_rfl
theorem fot26_1 : fieldOT Tryz.prog 26 1 = some (1, 3) := by kernel_rfl
theorem fo26_2 : fieldOff Tryz.prog 26 2 = some 2 := by kernel_rfl
theorem fps26_2 : fieldPS Tryz.prog 26 2 = some (2, 1) := by kernel_rfl
theorem fot26_2 : fieldOT Tryz.prog 26 2 = some (2, 3) := by kernel_rfl
theorem fo26_3 : fieldOff Tryz.prog 26 3 = some 3 := by kernel_rfl
theorem fps26_3 : fieldPS Tryz.prog 26 3 = some (3, 1) := by kernel_rfl
theorem fot26_3 : fieldOT Tryz.prog 26 3 = some (3, 2) := by kernel_rfl
theorem sz29 : szT Tryz.prog 29 = 1 := by kernel_rfl
theorem by29 : bytesT Tryz.prog 29 = 8 := by kernel_rfl
theorem inf29 : (Tryz.prog.info? 29).isSome = true := by kernel_rfl
theorem agg29 : aggT Tryz.prog 29 = some false := by kernel_rfl
theorem zero29 : zeroT Tryz.prog 29 = some (.int .i64 0) := by kernel_rfl
theorem sz37 : szT Tryz.prog 37 = 1 := by kernel_rfl
theorem by37 : bytesT Tryz.prog 37 = 24 := by kernel_rfl
theorem inf37 : (Tryz.prog.info? 37).isSome = true := by kernel_rfl
theorem agg37 : aggT Tryz.prog 37 = some false := by kernel_rfl
theorem zero37 : zeroT Tryz.prog 37 = some (.slice none 0 0) := by kernel_rfl
theorem sz40 : szT Tryz.prog 40 = 1 := by kernel_rfl
theorem by40 : bytesT Tryz.prog 40 = 24 := by kernel_rfl
theorem inf40 : (Tryz.prog.info? 40).isSome = true := by kernel_rfl
theorem agg40 : aggT Tryz.prog 40 = some false := by kernel_rfl
theorem zero40 : zeroT Tryz.prog 40 = some (.slice none 0 0) := by kernel_rfl
theorem sz62 : szT Tryz.prog 62 = 1 := by kernel_rfl
theorem by62 : bytesT Tryz.prog 62 = 24 := by kernel_rfl
theorem inf62 : (Tryz.prog.info? 62).isSome = true := by kernel_rfl
theorem agg62 : aggT Tryz.prog 62 = some false := by kernel_rfl
theorem zero62 : zeroT Tryz.prog 62 = some (.slice none 0 0) := by kernel_rfl
theorem sz65 : szT Tryz.prog 65 = 1 := by kernel_rfl
theorem by65 : bytesT Tryz.prog 65 = 24 := by kernel_rfl
theorem inf65 : (Tryz.prog.info? 65).isSome = true := by kernel_rfl
theorem agg65 : aggT Tryz.prog 65 = some false := by kernel_rfl
theorem zero65 : zeroT Tryz.prog 65 = some (.slice none 0 0) := by kernel_rfl
theorem sz73 : szT Tryz.prog 73 = 1 := by kernel_rfl
theorem by73 : bytesT Tryz.prog 73 = 24 := by kernel_rfl
theorem inf73 : (Tryz.prog.info? 73).isSome = true := by kernel_rfl
theorem agg73 : aggT Tryz.prog 73 = some false := by kernel_rfl
theorem zero73 : zeroT Tryz.prog 73 = some (.slice none 0 0) := by kernel_rfl
theorem sz77 : szT Tryz.prog 77 = 1 := by kernel_rfl
theorem by77 : bytesT Tryz.prog 77 = 24 := by kernel_rfl
theorem inf77 : (Tryz.prog.info? 77).isSome = true := by kernel_rfl
theorem agg77 : aggT Tryz.prog 77 = some false := by kernel_rfl
theorem zero77 : zeroT Tryz.prog 77 = some (.slice none 0 0) := by kernel_rfl
theorem sz91 : szT Tryz.prog 91 = 1 := by kernel_rfl
theorem by91 : bytesT Tryz.prog 91 = 8 := by kernel_rfl
theorem inf91 : (Tryz.prog.info? 91).isSome = true := by kernel_rfl
theorem agg91 : aggT Tryz.prog 91 = some false := by kernel_rfl
theorem zero91 : zeroT Tryz.prog 91 = some (.nilFunc) := by kernel_rfl
theorem sz96 : szT Tryz.prog 96 = 1 := by kernel_rfl
theorem by96 : bytesT Tryz.prog 96 = 8 := by kernel_rfl
theorem inf96 : (Tryz.prog.info? 96).isSome = true := by kernel_rfl
theorem agg96 : aggT Tryz.prog 96 = some false := by kernel_rfl
theorem zero96 : zeroT Tryz.prog 96 = some (.pointer none) := by kernel_rfl
theorem sz100 : szT Tryz.prog 100 = 1 := by kernel_rfl
theorem by100 : bytesT Tryz.prog 100 = 8 := by kernel_rfl
theorem inf100 : (Tryz.prog.info? 100).isSome = true := by kernel_rfl
theorem agg100 : aggT Tryz.prog 100 = some false := by kernel_rfl
theorem zero100 : zeroT Tryz.prog 100 = some (.nilFunc) := by kernel_rfl
theorem sz104 : szT Tryz.prog 104 = 8 := by kernel_rfl
theorem by104 : bytesT Tryz.prog 104 = 64 := by kernel_rfl
theorem inf104 : (Tryz.prog.info? 104).isSome = true := by kernel_rfl
theorem agg104 : aggT Tryz.prog 104 = some true := by kernel_rfl
theorem zero104 : zeroT Tryz.prog 104 = some (.agg #[.int .i64 0, .int .i64 0, .int .i64 0, .int .i64 0, .int .i64 0, .int .i64 0, .int .i64 0, .int .i64 0]) := by kernel_rfl
theorem sz113 : szT Tryz.prog 113 = 1 := by kernel_rfl
theorem by113 : bytesT Tryz.prog 113 = 8 := by kernel_rfl
theorem inf113 : (Tryz.prog.info? 113).isSome = true := by kernel_rfl
theorem agg113 : aggT Tryz.prog 113 = some false := by kernel_rfl
theorem zero113 : zeroT Tryz.prog 113 = some (.pointer none) := by kernel_rfl
theorem sz115 : szT Tryz.prog 115 = 2 := by kernel_rfl
theorem by115 : bytesT Tryz.prog 115 = 32 := by kernel_rfl
theorem inf115 : (Tryz.prog.info? 115).isSome = true := by kernel_rfl
theorem agg115 : aggT Tryz.prog 115 = some true := by kernel_rfl
theorem zero115 : zeroT Tryz.prog 115 = some (.agg #[.pointer none, .slice none 0 0]) := by kernel_rfl
theorem okf115 : okFields Tryz.prog 115 = true := by kernel_rfl
theorem fo115_0 : fieldOff Tryz.prog 115 0 = some 0 := by kernel_rfl
theorem fps115_0 : fieldPS Tryz.prog 115 0 = some (0, 1) := by kernel_rfl
theorem fot115_0 : fieldOT Tryz.prog 115 0 = some (0, 113) := by kernel_rfl
theorem fo115_1 : fieldOff Tryz.prog 115 1 = some 1 := by kernel_rfl
theorem fps115_1 : fieldPS Tryz.prog 115 1 = some (1, 1) := by kernel_rfl
theorem fot115_1 : fieldOT Tryz.prog 115 1 = some (1, 62) := by kernel_rfl
theorem sz117 : szT Tryz.prog 117 = 1 := by kernel_rfl
theorem by117 : bytesT Tryz.prog 117 = 16 := by kernel_rfl
theorem inf117 : (Tryz.prog.info? 117).isSome = true := by kernel_rfl
theorem agg117 : aggT Tryz.prog 117 = some false := by kernel_rfl
theorem zero117 : zeroT Tryz.prog 117 = some (.nilIface) := by kernel_rfl
theorem sz135 : szT Tryz.prog 135 = 1 := by kernel_rfl
theorem by135 : bytesT Tryz.prog 135 = 8 := by kernel_rfl
theorem inf135 : (Tryz.prog.info? 135).isSome = true := by kernel_rfl
theorem agg135 : aggT Tryz.prog 135 = some false := by kernel_rfl
theorem zero135 : zeroT Tryz.prog 135 = some (.nilFunc) := by kernel_rfl
theorem sz139 : szT Tryz.prog 139 = 3 := by kernel_rfl
theorem by139 : bytesT Tryz.prog 139 = 24 := by kernel_rfl
theorem inf139 : (Tryz.prog.info? 139).isSome = true := by kernel_rfl
theorem agg139 : aggT Tryz.prog 139 = some true := by kernel_rfl
theorem zero139 : zeroT Tryz.prog 139 = some (.agg #[.int .i64 0, .int .i64 0, .int .i64 0]) := by kernel_rfl
theorem okf139 : okFields Tryz.prog 139 = true := by kernel_rfl
theorem fo139_0 : fieldOff Tryz.prog 139 0 = some 0 := by kernel_rfl
theorem fps139_0 : fieldPS Tryz.prog 139 0 = some (0, 1) := by kernel_rfl
theorem fot139_0 : fieldOT Tryz.prog 139 0 = some (0, 3) := by kernel_rfl
theorem fo139_1 : fieldOff Tryz.prog 139 1 = some 1 := by kernel_rfl
theorem fps139_1 : fieldPS Tryz.prog 139 1 = some (1, 1) := by kernel_rfl
theorem fot139_1 : fieldOT Tryz.prog 139 1 = some (1, 3) := by kernel_rfl
theorem fo139_2 : fieldOff Tryz.prog 139 2 = some 2 := by kernel_rfl
theorem fps139_2 : fieldPS Tryz.prog 139 2 = some (2, 1) := by kernel_rfl
theorem fot139_2 : fieldOT Tryz.prog 139 2 = some (2, 2) := by kernel_rfl
theorem sz140 : szT Tryz.prog 140 = 1 := by kernel_rfl
theorem by140 : bytesT Tryz.prog 140 = 8 := by kernel_rfl
theorem inf140 : (Tryz.prog.info? 140).isSome = true := by kernel_rfl
theorem agg140 : aggT Tryz.prog 140 = some false := by kernel_rfl
theorem zero140 : zeroT Tryz.prog 140 = some (.nilFunc) := by kernel_rfl
theorem sz148 : szT Tryz.prog 148 = 1 := by kernel_rfl
theorem by148 : bytesT Tryz.prog 148 = 8 := by kernel_rfl
theorem inf148 : (Tryz.prog.info? 148).isSome = true := by kernel_rfl
theorem agg148 : aggT Tryz.prog 148 = some false := by kernel_rfl
theorem zero148 : zeroT Tryz.prog 148 = some (.nilFunc) := by kernel_rfl
theorem sz150 : szT Tryz.prog 150 = 3 := by kernel_rfl
theorem by150 : bytesT Tryz.prog 150 = 40 := by kernel_rfl
theorem inf150 : (Tryz.prog.info? 150).isSome = true := by kernel_rfl
theorem agg150 : aggT Tryz.prog 150 = some true := by kernel_rfl
theorem zero150 : zeroT Tryz.prog 150 = some (.agg #[.int .i64 0, .int .i64 0, .slice none 0 0]) := by kernel_rfl
theorem okf150 : okFields Tryz.prog 150 = true := by kernel_rfl
theorem fo150_0 : fieldOff Tryz.prog 150 0 = some 0 := by kernel_rfl
theorem fps150_0 : fieldPS Tryz.prog 150 0 = some (0, 3) := by kernel_rfl
theorem fot150_0 : fieldOT Tryz.prog 150 0 = some (0, 24) := by kernel_rfl
theorem sz155 : szT Tryz.prog 155 = 1 := by kernel_rfl
theorem by155 : bytesT Tryz.prog 155 = 8 := by kernel_rfl
theorem inf155 : (Tryz.prog.info? 155).isSome = true := by kernel_rfl
theorem agg155 : aggT Tryz.prog 155 = some false := by kernel_rfl
theorem zero155 : zeroT Tryz.prog 155 = some (.pointer none) := by kernel_rfl
theorem sz160 : szT Tryz.prog 160 = 1 := by kernel_rfl
theorem by160 : bytesT Tryz.prog 160 = 8 := by kernel_rfl
theorem inf160 : (Tryz.prog.info? 160).isSome = true := by kernel_rfl
theorem agg160 : aggT Tryz.prog 160 = some false := by kernel_rfl
theorem zero160 : zeroT Tryz.prog 160 = some (.map none) := by kernel_rfl
theorem sz162 : szT Tryz.prog 162 = 1 := by kernel_rfl
theorem by162 : bytesT Tryz.prog 162 = 8 := by kernel_rfl
theorem inf162 : (Tryz.prog.info? 162).isSome = true := by kernel_rfl
theorem agg162 : aggT Tryz.prog 162 = some true := by kernel_rfl
theorem zero162 : zeroT Tryz.prog 162 = some (.agg #[.int .i64 0]) := by kernel_rfl
theorem okf162 : okFields Tryz.prog 162 = true := by kernel_rfl
theorem fo162_0 : fieldOff Tryz.prog 162 0 = some 0 := by kernel_rfl
theorem fps162_0 : fieldPS Tryz.prog 162 0 = some (0, 1) := by kernel_rfl
theorem fot162_0 : fieldOT Tryz.prog 162 0 = some (0, 3) := by kernel_rfl
theorem sz163 : szT Tryz.prog 163 = 1 := by kernel_rfl
theorem by163 : bytesT Tryz.prog 163 = 24 := by kernel_rfl
theorem inf163 : (Tryz.prog.info? 163).isSome = true := by kernel_rfl
theorem agg163 : aggT Tryz.prog 163 = some false := by kernel_rfl
theorem zero163 : zeroT Tryz.prog 163 = some (.slice none 0 0) := by kernel_rfl
theorem sz165 : szT Tryz.prog 165 = 1 := by kernel_rfl
theorem by165 : bytesT Tryz.prog 165 = 8 := by kernel_rfl
theorem inf165 : (Tryz.prog.info? 165).isSome = true := by kernel_rfl
theorem agg165 : aggT Tryz.prog 165 = some false := by kernel_rfl
theorem zero165 : zeroT Tryz.prog 165 = some (.map none) := by kernel_rfl
theorem sz167 : szT Tryz.prog 167 = 1 := by kernel_rfl
theorem by167 : bytesT Tryz.prog 167 = 8 := by kernel_rfl
theorem inf167 : (Tryz.prog.info? 167).isSome = true := by kernel_rfl
theorem agg167 : aggT Tryz.prog 167 = some false := by kernel_rfl
theorem zero167 : zeroT Tryz.prog 167 = some (.nilFunc) := by kernel_rfl
theorem sz177 : szT Tryz.prog 177 = 256 := by kernel_rfl
theorem by177 : bytesT Tryz.prog 177 = 256 := by kernel_rfl
theorem inf177 : (Tryz.prog.info? 177).isSome = true := by kernel_rfl
theorem agg177 : aggT Tryz.prog 177 = some true := by kernel_rfl
theorem zero177 : zeroT Tryz.prog 177 = some (.agg #[.bool false, .bool false, .bool false, .bool false, .bool false, .bool false, .bool false, .bool false, .bool false, .bool false, .bool false, .bool false, .bool false, .bool false, .bool false, .bool false, .bool false, .bool false, .bool false, .bool false, .bool false, .bool false, .bool false, .bool false, .bool false, .bool false, .bool false, .bool false, .bool false, .bool false, .bool false, .bool false, .bool false, .bool false, .bool false, .bool false, .bool false, .bool false, .bool false, .bool false, .bool false, .bool false, .bool false, .bool false, .bool false, .bool false, .bool false, .bool false, .bool false, .bool false, .bool false, .bool false, .bool false, .bool false, .bool false, .bool false, .bool false, .bool false, .bool false, .bool false, .bool false, .bool false, .bool false, .bool false, .bool false, .bool false, .bool false, .bool false, .bool false, .bool false, .bool false, .bool false, .bool false, .bool false, .bool false, .bool false, .bool false, .bool false, .bool false, .bool false, .bool false, .bool false, .bool false, .bool false, .bool false, .bool false, .bool false, .bool false, .bool false, .bool false, .bool false, .bool false, .bool false, .bool false, .bool false, .bool false, .bool false, .bool false, .bool false, .bool false, .bool false, .bool false, .bool false, .bool false, .bool false, .bool false, .bool false, .bool false, .bool false, .bool false, .bool false, .bool false, .bool false, .bool false, .bool false, .bool false, .bool false, .bool false, .bool false, .bool false, .bool false, .bool false, .bool false, .bool false, .bool false, .bool false, .bool false, .bool false, .bool false, .bool false, .bool false, .bool false, .bool false, .bool false, .bool false, .bool false, .bool false, .bool false, .bool false, .bool false, .bool false, .bool false, .bool false, .bool false, .bool false, .bool false, .bool false, .bool false, .bool false, .bool false, .bool false, .bool false, .bool false, .bool false, .bool false, .bool false, .bool false, .bool false, .bool false, .bool false, .bool false, .bool false, .bool false, .bool false, .bool false, .bool false, .bool false, .bool false, .bool false, .bool false, .bool false, .bool false, .bool false, .bool false, .bool false, .bool false, .bool false, .bool false, .bool false, .bool false, .bool false, .bool false, .bool false, .bool false, .bool false, .bool false, .bool false, .bool false, .bool false, .bool false, .bool false, .bool false, .bool false, .bool false, .bool false, .bool false, .bool false, .bool false, .bool false, .bool false, .bool false, .bool false, .bool false, .bool false, .bool false, .bool false, .bool false, .bool false, .bool false, .bool false, .bool false, .bool false, .bool false, .bool false, .bool false, .bool false, .bool false, .bool false, .bool false, .bool false, .bool false, .bool false, .bool false, .bool false, .bool false, .bool false, .bool false, .bool false, .bool false, .bool false, .bool false, .bool false, .bool false, .bool false, .bool false, .bool false, .bool false, .bool false, .bool false, .bool false, .bool false, .bool false, .bool false, .bool false, .bool false, .bool false, .bool false, .bool false, .bool false, .bool false, .bool false, .bool false, .bool false, .bool false, .bool false, .bool false]) := by kernel_rfl
theorem sz181 : szT Tryz.prog 181 = 1 := by kernel_rfl
theorem by181 : bytesT Tryz.prog 181 = 8 := by kernel_rfl
theorem inf181 : (Tryz.prog.info? 181).isSome = true := by kernel_rfl
theorem agg181 : aggT Tryz.prog 181 = some false := by kernel_rfl
theorem zero181 : zeroT Tryz.prog 181 = some (.pointer none) := by kernel_rfl
theorem sz182 : szT Tryz.prog 182 = 1 := by kernel_rfl
theorem by182 : bytesT Tryz.prog 182 = 8 := by kernel_rfl
theorem inf182 : (Tryz.prog.info? 182).isSome = true := by kernel_rfl
theorem agg182 : aggT Tryz.prog 182 = some false := by kernel_rfl
theorem zero182 : zeroT Tryz.prog 182 = some (.pointer none) := by kernel_rfl
theorem sz189 : szT Tryz.prog 189 = 1 := by kernel_rfl
theorem by189 : bytesT Tryz.prog 189 = 24 := by kernel_rfl
theorem inf189 : (Tryz.prog.info? 189).isSome = true := by kernel_rfl
theorem agg189 : aggT Tryz.prog 189 = some false := by kernel_rfl
theorem zero189 : zeroT Tryz.prog 189 = some (.slice none 0 0) := by kernel_rfl
theorem sz193 : szT Tryz.prog 193 = 1 := by kernel_rfl
theorem by193 : bytesT Tryz.prog 193 = 8 := by kernel_rfl
theorem inf193 : (Tryz.prog.info? 193).isSome = true := by kernel_rfl
theorem agg193 : aggT Tryz.prog 193 = some false := by kernel_rfl
theorem zero193 : zeroT Tryz.prog 193 = some (.nilFunc) := by kernel_rfl
theorem sz196 : szT Tryz.prog 196 = 1 := by kernel_rfl
theorem by196 : bytesT Tryz.prog 196 = 8 := by kernel_rfl
theorem inf196 : (Tryz.prog.info? 196).isSome = true := by kernel_rfl
theorem agg196 : aggT Tryz.prog 196 = some false := by kernel_rfl
theorem zero196 : zeroT Tryz.prog 196 = some (.int .u64 0) := by kernel_rfl
theorem sz204 : szT Tryz.prog 204 = 24 := by kernel_rfl
theorem by204 : bytesT Tryz.prog 204 = 24 := by kernel_rfl
theorem inf204 : (Tryz.prog.info? 204).isSome = true := by kernel_rfl
theorem agg204 : aggT Tryz.prog 204 = some true := by kernel_rfl
theorem zero204 : zeroT Tryz.prog 204 = some (.agg #[.int .u8 0, .int .u8 0, .int .u8 0, .int .u8 0, .int .u8 0, .int .u8 0, .int .u8 0, .int .u8 0, .int .u8 0, .int .u8 0, .int .u8 0, .int .u8 0, .int .u8 0, .int .u8 0, .int .u8 0, .int .u8 0, .int .u8 0, .int .u8 0, .int .u8 0, .int .u8 0, .int .u8 0, .int .u8 0, .int .u8 0, .int .u8 0]) := by kernel_rfl
theorem sz205 : szT Tryz.prog 205 = 1 := by kernel_rfl
theorem by205 : bytesT Tryz.prog 205 = 8 := by kernel_rfl
theorem inf205 : (Tryz.prog.info? 205).isSome = true := by kernel_rfl
theorem agg205 : aggT Tryz.prog 205 = some false := by kernel_rfl
theorem zero205 : zeroT Tryz.prog 205 = some (.int .u64 0) := by kernel_rfl
theorem sz219 : szT Tryz.prog 219 = 1 := by kernel_rfl
theorem by219 : bytesT Tryz.prog 219 = 8 := by kernel_rfl
theorem inf219 : (Tryz.prog.info? 219).isSome = true := by kernel_rfl
theorem agg219 : aggT Tryz.prog 219 = some false := by kernel_rfl
theorem zero219 : zeroT Tryz.prog 219 = some (.int .i64 0) := by kernel_rfl
theorem sz227 : szT Tryz.prog 227 = 1 := by kernel_rfl
theorem by227 : bytesT Tryz.prog 227 = 4 := by kernel_rfl
theorem inf227 : (Tryz.prog.info? 227).isSome = true := by kernel_rfl
theorem agg227 : aggT Tryz.prog 227 = some false := by kernel_rfl
theorem zero227 : zeroT Tryz.prog 227 = some (.int .u32 0) := by kernel_rfl
theorem sz236 : szT Tryz.prog 236 = 20 := by kernel_rfl
theorem by236 : bytesT Tryz.prog 236 = 160 := by kernel_rfl
theorem inf236 : (Tryz.prog.info? 236).isSome = true := by kernel_rfl
theorem agg236 : aggT Tryz.prog 236 = some true := by kernel_rfl
theorem zero236 : zeroT Tryz.prog 236 = some (.agg #[.int .u64 0, .int .u64 0, .int .u64 0, .int .u64 0, .int .u64 0, .int .u64 0, .int .u64 0, .int .u64 0, .int .u64 0, .int .u64 0, .int .u64 0, .int .u64 0, .int .u64 0, .int .u64 0, .int .u64 0, .int .u64 0, .int .u64 0, .int .u64 0, .int .u64 0, .int .u64 0]) := by kernel_rfl
theorem sz237 : szT Tryz.prog 237 = 65 := by kernel_rfl
theorem by237 : bytesT Tryz.prog 237 = 65 := by kernel_rfl
theorem inf237 : (Tryz.prog.info? 237).isSome = true := by kernel_rfl
theorem agg237 : aggT Tryz.prog 237 = some true := by kernel_rfl
theorem zero237 : zeroT Tryz.prog 237 = some (.agg #[.int .u8 0, .int .u8 0, .int .u8 0, .int .u8 0, .int .u8 0, .int .u8 0, .int .u8 0, .int .u8 0, .int .u8 0, .int .u8 0, .int .u8 0, .int .u8 0, .int .u8 0, .int .u8 0, .int .u8 0, .int .u8 0, .int .u8 0, .int .u8 0, .int .u8 0, .int .u8 0, .int .u8 0, .int .u8 0, .int .u8 0, .int .u8 0, .int .u8 0, .int .u8 0, .int .u8 0, .int .u8 0, .int .u8 0, .int .u8 0, .int .u8 0, .int .u8 0, .int .u8 0, .int .u8 0, .int .u8 0, .int .u8 0, .int .u8 0, .int .u8 0, .int .u8 0, .int .u8 0, .int .u8 0, .int .u8 0, .int .u8 0, .int .u8 0, .int .u8 0, .int .u8 0, .int .u8 0, .int .u8 0, .int .u8 0, .int .u8 0, .int .u8 0, .int .u8 0, .int .u8 0, .int .u8 0, .int .u8 0, .int .u8 0, .int .u8 0, .int .u8 0, .int .u8 0, .int .u8 0, .int .u8 0, .int .u8 0, .int .u8 0, .int .u8 0, .int .u8 0]) := by kernel_rfl
theorem sz242 : szT Tryz.prog 242 = 3 := by kernel_rfl
theorem by242 : bytesT Tryz.prog 242 = 48 := by kernel_rfl
theorem inf242 : (Tryz.prog.info? 242).isSome = true := by kernel_rfl
theorem agg242 : aggT Tryz.prog 242 = some true := by kernel_rfl
theorem zero242 : zeroT Tryz.prog 242 = some (.agg #[.string ByteArray.empty, .string ByteArray.empty, .nilIface]) := by kernel_rfl
theorem okf242 : okFields Tryz.prog 242 = true := by kernel_rfl
theorem fo242_0 : fieldOff Tryz.prog 242 0 = some 0 := by kernel_rfl
theorem fps242_0 : fieldPS Tryz.prog 242 0 = some (0, 1) := by kernel_rfl
theorem fot242_0 : fieldOT Tryz.prog 242 0 = some (0, 9) := by kernel_rfl
theorem fo242_1 : fieldOff Tryz.prog 242 1 = some 1 := by kernel_rfl
theorem fps242_1 : fieldPS Tryz.prog 242 1 = some (1, 1) := by kernel_rfl
theorem fot242_1 : fieldOT Tryz.prog 242 1 = some (1, 9) := by kernel_rfl
theorem fo242_2 : fieldOff Tryz.prog 242 2 = some 2 := by kernel_rfl
theorem fps242_2 : fieldPS Tryz.prog 242 2 = some (2, 1) := by kernel_rfl
theorem fot242_2 : fieldOT Tryz.prog 242 2 = some (2, 117) := by kernel_rfl
theorem sz244 : szT Tryz.prog 244 = 1 := by kernel_rfl
theorem by244 : bytesT Tryz.prog 244 = 8 := by kernel_rfl
theorem inf244 : (Tryz.prog.info? 244).isSome = true := by kernel_rfl
theorem agg244 : aggT Tryz.prog 244 = some false := by kernel_rfl
theorem zero244 : zeroT Tryz.prog 244 = some (.int .u64 0) := by kernel_rfl
theorem sz248 : szT Tryz.prog 248 = 1 := by kernel_rfl
theorem by248 : bytesT Tryz.prog 248 = 8 := by kernel_rfl
theorem inf248 : (Tryz.prog.info? 248).isSome = true := by kernel_rfl
theorem agg248 : aggT Tryz.prog 248 = some false := by kernel_rfl
theorem zero248 : zeroT Tryz.prog 248 = some (.pointer none) := by kernel_rfl
theorem sz252 : szT Tryz.prog 252 = 256 := by kernel_rfl
theorem by252 : bytesT Tryz.prog 252 = 256 := by kernel_rfl
theorem inf252 : (Tryz.prog.info? 252).isSome = true := by kernel_rfl
theorem agg252 : aggT Tryz.prog 252 = some true := by kernel_rfl
theorem zero252 : zeroT Tryz.prog 252 = some (.agg #[.int .u8 0, .int .u8 0, .int .u8 0, .int .u8 0, .int .u8 0, .int .u8 0, .int .u8 0, .int .u8 0, .int .u8 0, .int .u8 0, .int .u8 0, .int .u8 0, .int .u8 0, .int .u8 0, .int .u8 0, .int .u8 0, .int .u8 0, .int .u8 0, .int .u8 0, .int .u8 0, .int .u8 0, .int .u8 0, .int .u8 0, .int .u8 0, .int .u8 0, .int .u8 0, .int .u8 0, .int .u8 0, .int .u8 0, .int .u8 0, .int .u8 0, .int .u8 0, .int .u8 0, .int .u8 0, .int .u8 0, .int .u8 0, .int .u8 0, .int .u8 0, .int .u8 0, .int .u8 0, .int .u8 0, .int .u8 0, .int .u8 0, .int .u8 0, .int .u8 0, .int .u8 0, .int .u8 0, .int .u8 0, .int .u8 0, .int .u8 0, .int .u8 0, .int .u8 0, .int .u8 0, .int .u8 0, .int .u8 0, .int .u8 0, .int .u8 0, .int .u8 0, .int .u8 0, .int .u8 0, .int .u8 0, .int .u8 0, .int .u8 0, .int .u8 0, .int .u8 0, .int .u8 0, .int .u8 0, .int .u8 0, .int .u8 0, .int .u8 0, .int .u8 0, .int .u8 0, .int .u8 0, .int .u8 0, .int .u8 0, .int .u8 0, .int .u8 0, .int .u8 0, .int .u8 0, .int .u8 0, .int .u8 0, .int .u8 0, .int .u8 0, .int .u8 0, .int .u8 0, .int .u8 0, .int .u8 0, .int .u8 0, .int .u8 0, .int .u8 0, .int .u8 0, .int .u8 0, .int .u8 0, .int .u8 0, .int .u8 0, .int .u8 0, .int .u8 0, .int .u8 0, .int .u8 0, .int .u8 0, .int .u8 0, .int .u8 0, .int .u8 0, .int .u8 0, .int .u8 0, .int .u8 0, .int .u8 0, .int .u8 0, .int .u8 0, .int .u8 0, .int .u8 0, .int .u8 0, .int .u8 0, .int .u8 0, .int .u8 0, .int .u8 0, .int .u8 0, .int .u8 0, .int .u8 0, .int .u8 0, .int .u8 0, .int .u8 0, .int .u8 0, .int .u8 0, .int .u8 0, .int .u8 0, .int .u8 0, .int .u8 0, .int .u8 0, .int .u8 0, .int .u8 0, .int .u8 0, .int .u8 0, .int .u8 0, .int .u8 0, .int .u8 0, .int .u8 0, .int .u8 0, .int .u8 0, .int .u8 0, .int .u8 0, .int .u8 0, .int .u8 0, .int .u8 0, .int .u8 0, .int .u8 0, .int .u8 0, .int .u8 0, .int .u8 0, .int .u8 0, .int .u8 0, .int .u8 0, .int .u8 0, .int .u8 0, .int .u8 0, .int .u8 0, .int .u8 0, .int .u8 0, .int .u8 0, .int .u8 0, .int .u8 0, .int .u8 0, .int .u8 0, .int .u8 0, .int .u8 0, .int .u8 0, .int .u8 0, .int .u8 0, .int .u8 0, .int .u8 0, .int .u8 0, .int .u8 0, .int .u8 0, .int .u8 0, .int .u8 0, .int .u8 0, .int .u8 0, .int .u8 0, .int .u8 0, .int .u8 0, .int .u8 0, .int .u8 0, .int .u8 0, .int .u8 0, .int .u8 0, .int .u8 0, .int .u8 0, .int .u8 0, .int .u8 0, .int .u8 0, .int .u8 0, .int .u8 0, .int .u8 0, .int .u8 0, .int .u8 0, .int .u8 0, .int .u8 0, .int .u8 0, .int .u8 0, .int .u8 0, .int .u8 0, .int .u8 0, .int .u8 0, .int .u8 0, .int .u8 0, .int .u8 0, .int .u8 0, .int .u8 0, .int .u8 0, .int .u8 0, .int .u8 0, .int .u8 0, .int .u8 0, .int .u8 0, .int .u8 0, .int .u8 0, .int .u8 0, .int .u8 0, .int .u8 0, .int .u8 0, .int .u8 0, .int .u8 0, .int .u8 0, .int .u8 0, .int .u8 0, .int .u8 0, .int .u8 0, .int .u8 0, .int .u8 0, .int .u8 0, .int .u8 0, .int .u8 0, .int .u8 0, .int .u8 0, .int .u8 0, .int .u8 0, .int .u8 0, .int .u8 0, .int .u8 0, .int .u8 0, .int .u8 0, .int .u8 0, .int .u8 0, .int .u8 0, .int .u8 0, .int .u8 0, .int .u8 0, .int .u8 0, .int .u8 0, .int .u8 0, .int .u8 0, .int .u8 0, .int .u8 0, .int .u8 0, .int .u8 0, .int .u8 0]) := by kernel_rfl
theorem sz254 : szT Tryz.prog 254 = 2 := by kernel_rfl
theorem by254 : bytesT Tryz.prog 254 = 2 := by kernel_rfl
theorem inf254 : (Tryz.prog.info? 254).isSome = true := by kernel_rfl
theorem agg254 : aggT Tryz.prog 254 = some true := by kernel_rfl
theorem zero254 : zeroT Tryz.prog 254 = some (.agg #[.int .u8 0, .int .u8 0]) := by kernel_rfl
theorem okf254 : okFields Tryz.prog 254 = true := by kernel_rfl
theorem fo254_0 : fieldOff Tryz.prog 254 0 = some 0 := by kernel_rfl
theorem fps254_0 : fieldPS Tryz.prog 254 0 = some (0, 1) := by kernel_rfl
theorem fot254_0 : fieldOT Tryz.prog 254 0 = some (0, 5) := by kernel_rfl
theorem fo254_1 : fieldOff Tryz.prog 254 1 = some 1 := by kernel_rfl
theorem fps254_1 : fieldPS Tryz.prog 254 1 = some (1, 1) := by kernel_rfl
theorem fot254_1 : fieldOT Tryz.prog 254 1 = some (1, 5) := by kernel_rfl
theorem sz255 : szT Tryz.prog 255 = 32 := by kernel_rfl
theorem by255 : bytesT Tryz.prog 255 = 32 := by kernel_rfl
theorem inf255 : (Tryz.prog.info? 255).isSome = true := by kernel_rfl
theorem agg255 : aggT Tryz.prog 255 = some true := by kernel_rfl
theorem zero255 : zeroT Tryz.prog 255 = some (.agg #[.int .u8 0, .int .u8 0, .int .u8 0, .int .u8 0, .int .u8 0, .int .u8 0, .int .u8 0, .int .u8 0, .int .u8 0, .int .u8 0, .int .u8 0, .int .u8 0, .int .u8 0, .int .u8 0, .int .u8 0, .int .u8 0, .int .u8 0, .int .u8 0, .int .u8 0, .int .u8 0, .int .u8 0, .int .u8 0, .int .u8 0, .int .u8 0, .int .u8 0, .int .u8 0, .int .u8 0, .int .u8 0, .int .u8 0, .int .u8 0, .int .u8 0, .int .u8 0]) := by kernel_rfl
theorem sz262 : szT Tryz.prog 262 = 1 := by kernel_rfl
theorem by262 : bytesT Tryz.prog 262 = 16 := by kernel_rfl
theorem inf262 : (Tryz.prog.info? 262).isSome = true := by kernel_rfl
theorem agg262 : aggT Tryz.prog 262 = some true := by kernel_rfl
theorem zero262 : zeroT Tryz.prog 262 = some (.agg #[.string ByteArray.empty]) := by kernel_rfl
theorem okf262 : okFields Tryz.prog 262 = true := by kernel_rfl
theorem fo262_0 : fieldOff Tryz.prog 262 0 = some 0 := by kernel_rfl
theorem fps262_0 : fieldPS Tryz.prog 262 0 = some (0, 1) := by kernel_rfl
theorem fot262_0 : fieldOT Tryz.prog 262 0 = some (0, 9) := by kernel_rfl
theorem sz267 : szT Tryz.prog 267 = 32 := by kernel_rfl
theorem by267 : bytesT Tryz.prog 267 = 32 := by kernel_rfl
theorem inf267 : (Tryz.prog.info? 267).isSome = true := by kernel_rfl
theorem agg267 : aggT Tryz.prog 267 = some true := by kernel_rfl
theorem zero267 : zeroT Tryz.prog 267 = some (.agg #[.int .u8 0, .int .u8 0, .int .u8 0, .int .u8 0, .int .u8 0, .int .u8 0, .int .u8 0, .int .u8 0, .int .u8 0, .int .u8 0, .int .u8 0, .int .u8 0, .int .u8 0, .int .u8 0, .int .u8 0, .int .u8 0, .int .u8 0, .int .u8 0, .int .u8 0, .int .u8 0, .int .u8 0, .int .u8 0, .int .u8 0, .int .u8 0, .int .u8 0, .int .u8 0, .int .u8 0, .int .u8 0, .int .u8 0, .int .u8 0, .int .u8 0, .int .u8 0]) := by kernel_rfl
theorem sz268 : szT Tryz.prog 268 = 64 := by kernel_rfl
theorem by268 : bytesT Tryz.prog 268 = 64 := by kernel_rfl
theorem inf268 : (Tryz.prog.info? 268).isSome = true := by kernel_rfl
theorem agg268 : aggT Tryz.prog 268 = some true := by kernel_rfl
theorem zero268 : zeroT Tryz.prog 268 = some (.agg #[.int .u8 0, .int .u8 0, .int .u8 0, .int .u8 0, .int .u8 0, .int .u8 0, .int .u8 0, .int .u8 0, .int .u8 0, .int .u8 0, .int .u8 0, .int .u8 0, .int .u8 0, .int .u8 0, .int .u8 0, .int .u8 0, .int .u8 0, .int .u8 0, .int .u8 0, .int .u8 0, .int .u8 0, .int .u8 0, .int .u8 0, .int .u8 0, .int .u8 0, .int .u8 0, .int .u8 0, .int .u8 0, .int .u8 0, .int .u8 0, .int .u8 0, .int .u8 0, .int .u8 0, .int .u8 0, .int .u8 0, .int .u8 0, .int .u8 0, .int .u8 0, .int .u8 0, .int .u8 0, .int .u8 0, .int .u8 0, .int .u8 0, .int .u8 0, .int .u8 0, .int .u8 0, .int .u8 0, .int .u8 0, .int .u8 0, .int .u8 0, .int .u8 0, .int .u8 0, .int .u8 0, .int .u8 0, .int .u8 0, .int .u8 0, .int .u8 0, .int .u8 0, .int .u8 0, .int .u8 0, .int .u8 0, .int .u8 0, .int .u8 0, .int .u8 0]) := by kernel_rfl
theorem bod3 : bodied Tryz.prog 3 = true := by kernel_rfl
theorem bod4 : bodied Tryz.prog 4 = true := by kernel_rfl
theorem bod5 : bodied Tryz.prog 5 = true := by kernel_rfl
theorem bod6 : bodied Tryz.prog 6 = true := by kernel_rfl
theorem bod7 : bodied Tryz.prog 7 = true := by kernel_rfl
theorem bod8 : bodied Tryz.prog 8 = true := by kernel_rfl
theorem bod9 : bodied Tryz.prog 9 = true := by kernel_rfl
theorem bod10 : bodied Tryz.prog 10 = true := by kernel_rfl
theorem bod11 : bodied Tryz.prog 11 = true := by kernel_rfl
theorem bod12 : bodied Tryz.prog 12 = true := by kernel_rfl
theorem bod13 : bodied Tryz.prog 13 = true := by kernel_rfl
theorem bod14 : bodied Tryz.prog 14 = true := by kernel_rfl
theorem bod15 : bodied Tryz.prog 15 = true := by kernel_rfl
theorem bod16 : bodied Tryz.prog 16 = true := by kernel_rfl
theorem bod17 : bodied Tryz.prog 17 = true := by kernel_rfl
theorem bod18 : bodied Tryz.prog 18 = true := by kernel_rfl
theorem bod19 : bodied Tryz.prog 19 = true := by kernel_rfl
theorem bod20 : bodied Tryz.prog 20 = true := by kernel_rfl
theorem bod21 : bodied Tryz.prog 21 = true := by kernel_rfl
theorem bod22 : bodied Tryz.prog 22 = true := by kernel_rfl
theorem bod23 : bodied Tryz.prog 23 = true := by kernel_rfl
theorem bod24 : bodied Tryz.prog 24 = true := by kernel_rfl
theorem bod25 : bodied Tryz.prog 25 = true := by kernel_rfl
theorem bod26 : bodied Tryz.prog 26 = true := by kernel_rfl
theorem bod27 : bodied Tryz.prog 27 = true := by kernel_rfl
theorem bod28 : bodied Tryz.prog 28 = true := by kernel_rfl
theorem bod29 : bodied Tryz.prog 29 = true := by kernel_rfl
theorem bod30 : bodied Tryz.prog 30 = true := by kernel_rfl
theorem bod31 : bodied Tryz.prog 31 = true := by kernel_rfl
theorem bod32 : bodied Tryz.prog 32 = true := by kernel_rfl
theorem bod33 : bodied Tryz.prog 33 = true := by kernel_rfl
theorem bod34 : bodied Tryz.prog 34 = true := by kernel_rfl
theorem bod35 : bodied Tryz.prog 35 = true := by kernel_rfl
theorem bod36 : bodied Tryz.prog 36 = true := by kernel_rfl
theorem bod37 : bodied Tryz.prog 37 = true := by kernel_rfl
theorem bod38 : bodied Tryz.prog 38 = true := by kernel_rfl
theorem bod39 : bodied Tryz.prog 39 = true := by kernel_rfl
theorem bod40 : bodied Tryz.prog 40 = true := by kernel_rfl
theorem bod41 : bodied Tryz.prog 41 = true := by kernel_rfl
theorem bod42 : bodied Tryz.prog 42 = true := by kernel_rfl
theorem bod43 : bodied Tryz.prog 43 = true := by kernel_rfl
theorem bod44 : bodied Tryz.prog 44 = true := by kernel_rfl
theorem bod45 : bodied Tryz.prog 45 = true := by kernel_rfl
theorem bod46 : bodied Tryz.prog 46 = true := by kernel_rfl
theorem bod47 : bodied Tryz.prog 47 = true := by kernel_rfl
theorem bod48 : bodied Tryz.prog 48 = true := by kernel_rfl
theorem bod49 : bodied Tryz.prog 49 = true := by kernel_rfl
theorem bod50 : bodied Tryz.prog 50 = true := by kernel_rfl
theorem bod51 : bodied Tryz.prog 51 = true := by kernel_rfl
theorem bod52 : bodied Tryz.prog 52 = true := by kernel_rfl
theorem bod53 : bodied Tryz.prog 53 = true := by kernel_rfl
theorem bod54 : bodied Tryz.prog 54 = true := by kernel_rfl
theorem bod55 : bodied Tryz.prog 55 = true := by kernel_rfl
theorem bod56 : bodied Tryz.prog 56 = true := by kernel_rfl
theorem bod57 : bodied Tryz.prog 57 = true := by kernel_rfl
theorem bod58 : bodied Tryz.prog 58 = true := by kernel_rfl
theorem bod59 : bodied Tryz.prog 59 = true := by kernel_rfl
theorem bod60 : bodied Tryz.prog 60 = true := by kernel_rfl
theorem bod61 : bodied Tryz.prog 61 = true := by kernel_rfl
theorem bod62 : bodied Tryz.prog 62 = true := by kernel_rfl
theorem bod63 : bodied Tryz.prog 63 = true := by kernel_rfl
theorem bod64 : bodied Tryz.prog 64 = true := by kernel_rfl
theorem bod65 : bodied Tryz.prog 65 = true := by kernel_rfl
theorem bod66 : bodied Tryz.prog 66 = true := by kernel_rfl
theorem bod67 : bodied Tryz.prog 67 = true := by kernel_rfl
theorem bod68 : bodied Tryz.prog 68 = true := by kernel_rfl
theorem bod69 : bodied Tryz.prog 69 = true := by kernel_rfl
theorem bod70 : bodied Tryz.prog 70 = true := by kernel_rfl
theorem bod71 : bodied Tryz.prog 71 = true := by kernel_rfl
theorem bod72 : bodied Tryz.prog 72 = true := by kernel_rfl
theorem bod73 : bodied Tryz.prog 73 = true := by kernel_rfl
theorem bod74 : bodied Tryz.prog 74 = true := by kernel_rfl
theorem bod75 : bodied Tryz.prog 75 = true := by kernel_rfl
theorem bod76 : bodied Tryz.prog 76 = true := by kernel_rfl
theorem bod77 : bodied Tryz.prog 77 = true := by kernel_rfl
theorem bod78 : bodied Tryz.prog 78 = true := by kernel_rfl
theorem bod79 : bodied Tryz.prog 79 = true := by kernel_rfl
theorem bod80 : bodied Tryz.prog 80 = true := by kernel_rfl
theorem bod81 : bodied Tryz.prog 81 = true := by kernel_rfl
theorem bod82 : bodied Tryz.prog 82 = true := by kernel_rfl
theorem bod83 : bodied Tryz.prog 83 = true := by kernel_rfl
theorem bod84 : bodied Tryz.prog 84 = true := by kernel_rfl
theorem bod85 : bodied Tryz.prog 85 = true := by kernel_rfl
theorem bod86 : bodied Tryz.prog 86 = true := by kernel_rfl
theorem bod87 : bodied Tryz.prog 87 = true := by kernel_rfl
theorem bod88 : bodied Tryz.prog 88 = true := by kernel_rfl
theorem bod89 : bodied Tryz.prog 89 = true := by kernel_rfl
theorem bod90 : bodied Tryz.prog 90 = true := by kernel_rfl
theorem bod91 : bodied Tryz.prog 91 = true := by kernel_rfl
theorem bod92 : bodied Tryz.prog 92 = true := by kernel_rfl
theorem bod93 : bodied Tryz.prog 93 = true := by kernel_rfl
theorem bod94 : bodied Tryz.prog 94 = true := by kernel_rfl
theorem bod95 : bodied Tryz.prog 95 = true := by kernel_rfl
theorem bod96 : bodied Tryz.prog 96 = true := by kernel_rfl
theorem bod97 : bodied Tryz.prog 97 = true := by kernel_rfl
theorem bod98 : bodied Tryz.prog 98 = true := by kernel_rfl
theorem bod99 : bodied Tryz.prog 99 = true := by kernel_rfl
theorem bod100 : bodied Tryz.prog 100 = true := by kernel_rfl
theorem bod101 : bodied Tryz.prog 101 = true := by kernel_rfl
theorem bod102 : bodied Tryz.prog 102 = true := by kernel_rfl
theorem bod103 : bodied Tryz.prog 103 = true := by kernel_rfl
theorem bod104 : bodied Tryz.prog 104 = true := by kernel_rfl
theorem bod105 : bodied Tryz.prog 105 = true := by kernel_rfl
theorem bod106 : bodied Tryz.prog 106 = true := by kernel_rfl
theorem bod107 : bodied Tryz.prog 107 = true := by kernel_rfl
theorem bod108 : bodied Tryz.prog 108 = true := by kernel_rfl
theorem bod109 : bodied Tryz.prog 109 = true := by kernel_rfl
theorem bod111 : bodied Tryz.prog 111 = true := by kernel_rfl
theorem bod112 : bodied Tryz.prog 112 = true := by kernel_rfl
theorem bod113 : bodied Tryz.prog 113 = true := by kernel_rfl
theorem bod114 : bodied Tryz.prog 114 = true := by kernel_rfl
theorem bod115 : bodied Tryz.prog 115 = true := by kernel_rfl
theorem bod116 : bodied Tryz.prog 116 = true := by kernel_rfl
theorem bod117 : bodied Tryz.prog 117 = true := by kernel_rfl
theorem bod118 : bodied Tryz.prog 118 = true := by kernel_rfl
theorem bod119 : bodied Tryz.prog 119 = true := by kernel_rfl
theorem bod120 : bodied Tryz.prog 120 = true := by kernel_rfl
theorem bod121 : bodied Tryz.prog 121 = true := by kernel_rfl
theorem bod122 : bodied Tryz.prog 122 = true := by kernel_rfl
theorem bod123 : bodied Tryz.prog 123 = true := by kernel_rfl
theorem bod124 : bodied Tryz.prog 124 = true := by kernel_rfl
theorem bod125 : bodied Tryz.prog 125 = true := by kernel_rfl
theorem bod126 : bodied Tryz.prog 126 = true := by kernel_rfl
theorem bod127 : bodied Tryz.prog 127 = true := by kernel_rfl
theorem bod128 : bodied Tryz.prog 128 = true := by kernel_rfl
theorem bod129 : bodied Tryz.prog 129 = true := by kernel_rfl
theorem bod130 : bodied Tryz.prog 130 = true := by kernel_rfl
theorem bod131 : bodied Tryz.prog 131 = true := by kernel_rfl
theorem bod132 : bodied Tryz.prog 132 = true := by kernel_rfl
theorem bod133 : bodied Tryz.prog 133 = true := by kernel_rfl
theorem bod134 : bodied Tryz.prog 134 = true := by kernel_rfl
theorem bod135 : bodied Tryz.prog 135 = true := by kernel_rfl
theorem bod136 : bodied Tryz.prog 136 = true := by kernel_rfl
theorem bod137 : bodied Tryz.prog 137 = true := by kernel_rfl
theorem bod138 : bodied Tryz.prog 138 = true := by kernel_rfl
theorem bod139 : bodied Tryz.prog 139 = true := by kernel_rfl
theorem bod140 : bodied Tryz.prog 140 = true := by kernel_rfl
theorem bod141 : bodied Tryz.prog 141 = true := by kernel_rfl
theorem bod142 : bodied Tryz.prog 142 = true := by kernel_rfl
theorem bod143 : bodied Tryz.prog 143 = true := by kernel_rfl
theorem bod144 : bodied Tryz.prog 144 = true := by kernel_rfl
theorem bod145 : bodied Tryz.prog 145 = true := by kernel_rfl
theorem bod146 : bodied Tryz.prog 146 = true := by kernel_rfl
theorem bod148 : bodied Tryz.prog 148 = true := by kernel_rfl
theorem bod149 : bodied Tryz.prog 149 = true := by kernel_rfl
theorem bod150 : bodied Tryz.prog 150 = true := by kernel_rfl
theorem bod151 : bodied Tryz.prog 151 = true := by kernel_rfl
theorem bod152 : bodied Tryz.prog 152 = true := by kernel_rfl
theorem bod153 : bodied Tryz.prog 153 = true := by kernel_rfl
theorem bod154 : bodied Tryz.prog 154 = true := by kernel_rfl
theorem bod155 : bodied Tryz.prog 155 = true := by kernel_rfl
theorem bod156 : bodied Tryz.prog 156 = true := by kernel_rfl
theorem bod157 : bodied Tryz.prog 157 = true := by kernel_rfl
theorem bod158 : bodied Tryz.prog 158 = true := by kernel_rfl
theorem bod159 : bodied Tryz.prog 159 = true := by kernel_rfl
theorem bod160 : bodied Tryz.prog 160 = true := by kernel_rfl
theorem bod161 : bodied Tryz.prog 161 = true := by kernel_rfl
theorem bod162 : bodied Tryz.prog 162 = true := by kernel_rfl
theorem bod163 : bodied Tryz.prog 163 = true := by kernel_rfl
theorem bod164 : bodied Tryz.prog 164 = true := by kernel_rfl
theorem bod165 : bodied Tryz.prog 165 = true := by kernel_rfl
theorem bod166 : bodied Tryz.prog 166 = true := by kernel_rfl
theorem bod167 : bodied Tryz.prog 167 = true := by kernel_rfl
theorem bod168 : bodied Tryz.prog 168 = true := by kernel_rfl
theorem bod169 : bodied Tryz.prog 169 = true := by kernel_rfl
theorem bod170 : bodied Tryz.prog 170 = true := by kernel_rfl
theorem bod171 : bodied Tryz.prog 171 = true := by kernel_rfl
theorem bod172 : bodied Tryz.prog 172 = true := by kernel_rfl
theorem bod173 : bodied Tryz.prog 173 = true := by kernel_rfl
theorem bod174 : bodied Tryz.prog 174 = true := by kernel_rfl
theorem bod175 : bodied Tryz.prog 175 = true := by kernel_rfl
theorem bod177 : bodied Tryz.prog 177 = true := by kernel_rfl
theorem bod178 : bodied Tryz.prog 178 = true := by kernel_rfl
theorem bod179 : bodied Tryz.prog 179 = true := by kernel_rfl
theorem bod180 : bodied Tryz.prog 180 = true := by kernel_rfl
theorem bod181 : bodied Tryz.prog 181 = true := by kernel_rfl
theorem bod182 : bodied Tryz.prog 182 = true := by kernel_rfl
theorem bod183 : bodied Tryz.prog 183 = true := by kernel_rfl
theorem bod184 : bodied Tryz.prog 184 = true := by kernel_rfl
theorem bod185 : bodied Tryz.prog 185 = true := by kernel_rfl
theorem bod186 : bodied Tryz.prog 186 = true := by kernel_rfl
theorem bod187 : bodied Tryz.prog 187 = true := by kernel_rfl
theorem bod188 : bodied Tryz.prog 188 = true := by kernel_rfl
theorem bod189 : bodied Tryz.prog 189 = true := by kernel_rfl
theorem bod190 : bodied Tryz.prog 190 = true := by kernel_rfl
theorem bod191 : bodied Tryz.prog 191 = true := by kernel_rfl
theorem bod192 : bodied Tryz.prog 192 = true := by kernel_rfl
theorem bod193 : bodied Tryz.prog 193 = true := by kernel_rfl
theorem bod194 : bodied Tryz.prog 194 = true := by kernel_rfl
theorem bod195 : bodied Tryz.prog 195 = true := by kernel_rfl
theorem bod196 : bodied Tryz.prog 196 = true := by kernel_rfl
theorem bod197 : bodied Tryz.prog 197 = true := by kernel_rfl
theorem bod198 : bodied Tryz.prog 198 = true := by kernel_rfl
theorem bod199 : bodied Tryz.prog 199 = true := by kernel_rfl
theorem bod200 : bodied Tryz.prog 200 = true := by kernel_rfl
theorem bod201 : bodied Tryz.prog 201 = true := by kernel_rfl
theorem bod202 : bodied Tryz.prog 202 = true := by kernel_rfl
theorem bod203 : bodied Tryz.prog 203 = true := by kernel_rfl
theorem bod204 : bodied Tryz.prog 204 = true := by kernel_rfl
theorem bod205 : bodied Tryz.prog 205 = true := by kernel_rfl
theorem bod206 : bodied Tryz.prog 206 = true := by kernel_rfl
theorem bod207 : bodied Tryz.prog 207 = true := by kernel_rfl
theorem bod208 : bodied Tryz.prog 208 = true := by kernel_rfl
theorem bod210 : bodied Tryz.prog 210 = true := by kernel_rfl
theorem bod212 : bodied Tryz.prog 212 = true := by kernel_rfl
theorem bod213 : bodied Tryz.prog 213 = true := by kernel_rfl
theorem bod214 : bodied Tryz.prog 214 = true := by kernel_rfl
theorem bod215 : bodied Tryz.prog 215 = true := by kernel_rfl
theorem bod216 : bodied Tryz.prog 216 = true := by kernel_rfl
theorem bod217 : bodied Tryz.prog 217 = true := by kernel_rfl
theorem bod218 : bodied Tryz.prog 218 = true := by kernel_rfl
theorem bod219 : bodied Tryz.prog 219 = true := by kernel_rfl
theorem bod220 : bodied Tryz.prog 220 = true := by kernel_rfl
theorem bod221 : bodied Tryz.prog 221 = true := by kernel_rfl
theorem bod222 : bodied Tryz.prog 222 = true := by kernel_rfl
theorem bod223 : bodied Tryz.prog 223 = true := by kernel_rfl
theorem bod224 : bodied Tryz.prog 224 = true := by kernel_rfl
theorem bod225 : bodied Tryz.prog 225 = true := by kernel_rfl
theorem bod226 : bodied Tryz.prog 226 = true := by kernel_rfl
theorem bod227 : bodied Tryz.prog 227 = true := by kernel_rfl
theorem bod228 : bodied Tryz.prog 228 = true := by kernel_rfl
theorem bod230 : bodied Tryz.prog 230 = true := by kernel_rfl
theorem bod231 : bodied Tryz.prog 231 = true := by kernel_rfl
theorem bod232 : bodied Tryz.prog 232 = true := by kernel_rfl
theorem bod233 : bodied Tryz.prog 233 = true := by kernel_rfl
theorem bod234 : bodied Tryz.prog 234 = true := by kernel_rfl
theorem bod264 : bodied Tryz.prog 264 = true := by kernel_rfl
end Go.Proofs.YtepaekbjoombpaaGreatDoor.Tab
