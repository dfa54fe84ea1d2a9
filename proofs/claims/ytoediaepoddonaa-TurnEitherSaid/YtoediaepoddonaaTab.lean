/- The facts on the types and functions of the program that the walks use, each closed. No condition. -/
import Derived.Test.YtoediaepoddonaaProg
import Derived.Test.YtoediaepoddonaaEng
import Derived.KernelRfl
namespace Go.Proofs.Ytoediaepoddonaa.Tab
open Go Go.Proofs Go.Eng
theorem sz2 : szT Try.prog 2 = 1 := by kernel_rfl
theorem by2 : bytesT Try.prog 2 = 8 := by kernel_rfl
theorem inf2 : (Try.prog.info? 2).isSome = true := by kernel_rfl
theorem agg2 : aggT Try.prog 2 = some false := by kernel_rfl
theorem zero2 : zeroT Try.prog 2 = some (.int .i64 0) := by kernel_rfl
theorem sz3 : szT Try.prog 3 = 1 := by kernel_rfl
theorem by3 : bytesT Try.prog 3 = 8 := by kernel_rfl
theorem inf3 : (Try.prog.info? 3).isSome = true := by kernel_rfl
theorem agg3 : aggT Try.prog 3 = some false := by kernel_rfl
theorem zero3 : zeroT Try.prog 3 = some (.int .i64 0) := by kernel_rfl
theorem sz4 : szT Try.prog 4 = 1 := by kernel_rfl
theorem by4 : bytesT Try.prog 4 = 1 := by kernel_rfl
theorem inf4 : (Try.prog.info? 4).isSome = true := by kernel_rfl
theorem agg4 : aggT Try.prog 4 = some false := by kernel_rfl
theorem zero4 : zeroT Try.prog 4 = some (.bool false) := by kernel_rfl
theorem sz5 : szT Try.prog 5 = 1 := by kernel_rfl
theorem by5 : bytesT Try.prog 5 = 1 := by kernel_rfl
theorem inf5 : (Try.prog.info? 5).isSome = true := by kernel_rfl
theorem agg5 : aggT Try.prog 5 = some false := by kernel_rfl
theorem zero5 : zeroT Try.prog 5 = some (.int .u8 0) := by kernel_rfl
theorem sz9 : szT Try.prog 9 = 1 := by kernel_rfl
theorem by9 : bytesT Try.prog 9 = 16 := by kernel_rfl
theorem inf9 : (Try.prog.info? 9).isSome = true := by kernel_rfl
theorem agg9 : aggT Try.prog 9 = some false := by kernel_rfl
theorem zero9 : zeroT Try.prog 9 = some (.string ByteArray.empty) := by kernel_rfl
theorem sz22 : szT Try.prog 22 = 1 := by kernel_rfl
theorem by22 : bytesT Try.prog 22 = 24 := by kernel_rfl
theorem inf22 : (Try.prog.info? 22).isSome = true := by kernel_rfl
theorem agg22 : aggT Try.prog 22 = some false := by kernel_rfl
theorem zero22 : zeroT Try.prog 22 = some (.slice none 0 0) := by kernel_rfl
theorem sz25 : szT Try.prog 25 = 1 := by kernel_rfl
theorem by25 : bytesT Try.prog 25 = 8 := by kernel_rfl
theorem inf25 : (Try.prog.info? 25).isSome = true := by kernel_rfl
theorem agg25 : aggT Try.prog 25 = some false := by kernel_rfl
theorem zero25 : zeroT Try.prog 25 = some (.int .i64 0) := by kernel_rfl
theorem sz47 : szT Try.prog 47 = 1 := by kernel_rfl
theorem by47 : bytesT Try.prog 47 = 4 := by kernel_rfl
theorem inf47 : (Try.prog.info? 47).isSome = true := by kernel_rfl
theorem agg47 : aggT Try.prog 47 = some false := by kernel_rfl
theorem zero47 : zeroT Try.prog 47 = some (.int .u32 0) := by kernel_rfl
theorem sz62 : szT Try.prog 62 = 1 := by kernel_rfl
theorem by62 : bytesT Try.prog 62 = 8 := by kernel_rfl
theorem inf62 : (Try.prog.info? 62).isSome = true := by kernel_rfl
theorem agg62 : aggT Try.prog 62 = some false := by kernel_rfl
theorem zero62 : zeroT Try.prog 62 = some (.pointer none) := by kernel_rfl
theorem sz77 : szT Try.prog 77 = 2 := by kernel_rfl
theorem by77 : bytesT Try.prog 77 = 16 := by kernel_rfl
theorem inf77 : (Try.prog.info? 77).isSome = true := by kernel_rfl
theorem agg77 : aggT Try.prog 77 = some true := by kernel_rfl
theorem zero77 : zeroT Try.prog 77 = some (.agg #[.int .i64 0, .int .i64 0]) := by kernel_rfl
theorem okf77 : okFields Try.prog 77 = true := by kernel_rfl
theorem fo77_0 : fieldOff Try.prog 77 0 = some 0 := by kernel_rfl
theorem fps77_0 : fieldPS Try.prog 77 0 = some (0, 1) := by kernel_rfl
theorem fot77_0 : fieldOT Try.prog 77 0 = some (0, 2) := by kernel_rfl
theorem fo77_1 : fieldOff Try.prog 77 1 = some 1 := by kernel_rfl
theorem fps77_1 : fieldPS Try.prog 77 1 = some (1, 1) := by kernel_rfl
theorem fot77_1 : fieldOT Try.prog 77 1 = some (1, 2) := by kernel_rfl
theorem sz81 : szT Try.prog 81 = 1 := by kernel_rfl
theorem by81 : bytesT Try.prog 81 = 8 := by kernel_rfl
theorem inf81 : (Try.prog.info? 81).isSome = true := by kernel_rfl
theorem agg81 : aggT Try.prog 81 = some false := by kernel_rfl
theorem zero81 : zeroT Try.prog 81 = some (.map none) := by kernel_rfl
theorem sz83 : szT Try.prog 83 = 1 := by kernel_rfl
theorem by83 : bytesT Try.prog 83 = 24 := by kernel_rfl
theorem inf83 : (Try.prog.info? 83).isSome = true := by kernel_rfl
theorem agg83 : aggT Try.prog 83 = some false := by kernel_rfl
theorem zero83 : zeroT Try.prog 83 = some (.slice none 0 0) := by kernel_rfl
theorem sz85 : szT Try.prog 85 = 2 := by kernel_rfl
theorem by85 : bytesT Try.prog 85 = 16 := by kernel_rfl
theorem inf85 : (Try.prog.info? 85).isSome = true := by kernel_rfl
theorem agg85 : aggT Try.prog 85 = some true := by kernel_rfl
theorem zero85 : zeroT Try.prog 85 = some (.agg #[.int .i64 0, .int .i64 0]) := by kernel_rfl
theorem okf85 : okFields Try.prog 85 = true := by kernel_rfl
theorem fo85_0 : fieldOff Try.prog 85 0 = some 0 := by kernel_rfl
theorem fps85_0 : fieldPS Try.prog 85 0 = some (0, 1) := by kernel_rfl
theorem fot85_0 : fieldOT Try.prog 85 0 = some (0, 3) := by kernel_rfl
theorem fo85_1 : fieldOff Try.prog 85 1 = some 1 := by kernel_rfl
theorem fps85_1 : fieldPS Try.prog 85 1 = some (1, 1) := by kernel_rfl
theorem fot85_1 : fieldOT Try.prog 85 1 = some (1, 3) := by kernel_rfl
theorem sz87 : szT Try.prog 87 = 1 := by kernel_rfl
theorem by87 : bytesT Try.prog 87 = 8 := by kernel_rfl
theorem inf87 : (Try.prog.info? 87).isSome = true := by kernel_rfl
theorem agg87 : aggT Try.prog 87 = some false := by kernel_rfl
theorem zero87 : zeroT Try.prog 87 = some (.nilFunc) := by kernel_rfl
theorem sz90 : szT Try.prog 90 = 1 := by kernel_rfl
theorem by90 : bytesT Try.prog 90 = 8 := by kernel_rfl
theorem inf90 : (Try.prog.info? 90).isSome = true := by kernel_rfl
theorem agg90 : aggT Try.prog 90 = some false := by kernel_rfl
theorem zero90 : zeroT Try.prog 90 = some (.nilFunc) := by kernel_rfl
theorem sz94 : szT Try.prog 94 = 1 := by kernel_rfl
theorem by94 : bytesT Try.prog 94 = 8 := by kernel_rfl
theorem inf94 : (Try.prog.info? 94).isSome = true := by kernel_rfl
theorem agg94 : aggT Try.prog 94 = some false := by kernel_rfl
theorem zero94 : zeroT Try.prog 94 = some (.nilFunc) := by kernel_rfl
theorem sz101 : szT Try.prog 101 = 1 := by kernel_rfl
theorem by101 : bytesT Try.prog 101 = 8 := by kernel_rfl
theorem inf101 : (Try.prog.info? 101).isSome = true := by kernel_rfl
theorem agg101 : aggT Try.prog 101 = some true := by kernel_rfl
theorem zero101 : zeroT Try.prog 101 = some (.agg #[.int .i64 0]) := by kernel_rfl
theorem okf101 : okFields Try.prog 101 = true := by kernel_rfl
theorem fo101_0 : fieldOff Try.prog 101 0 = some 0 := by kernel_rfl
theorem fps101_0 : fieldPS Try.prog 101 0 = some (0, 1) := by kernel_rfl
theorem fot101_0 : fieldOT Try.prog 101 0 = some (0, 3) := by kernel_rfl
theorem sz103 : szT Try.prog 103 = 12 := by kernel_rfl
theorem by103 : bytesT Try.prog 103 = 96 := by kernel_rfl
theorem inf103 : (Try.prog.info? 103).isSome = true := by kernel_rfl
theorem agg103 : aggT Try.prog 103 = some true := by kernel_rfl
theorem zero103 : zeroT Try.prog 103 = some (.agg #[.int .i64 0, .int .i64 0, .int .i64 0, .int .i64 0, .int .i64 0, .int .i64 0, .int .i64 0, .int .i64 0, .int .i64 0, .int .i64 0, .int .i64 0, .int .i64 0]) := by kernel_rfl
theorem sz105 : szT Try.prog 105 = 14 := by kernel_rfl
theorem by105 : bytesT Try.prog 105 = 112 := by kernel_rfl
theorem inf105 : (Try.prog.info? 105).isSome = true := by kernel_rfl
theorem agg105 : aggT Try.prog 105 = some true := by kernel_rfl
theorem zero105 : zeroT Try.prog 105 = some (.agg #[.int .i64 0, .int .i64 0, .int .i64 0, .int .i64 0, .int .i64 0, .int .i64 0, .int .i64 0, .int .i64 0, .int .i64 0, .int .i64 0, .int .i64 0, .int .i64 0, .int .i64 0, .int .i64 0]) := by kernel_rfl
theorem okf105 : okFields Try.prog 105 = true := by kernel_rfl
theorem fo105_0 : fieldOff Try.prog 105 0 = some 0 := by kernel_rfl
theorem fps105_0 : fieldPS Try.prog 105 0 = some (0, 1) := by kernel_rfl
theorem fot105_0 : fieldOT Try.prog 105 0 = some (0, 101) := by kernel_rfl
theorem fo105_1 : fieldOff Try.prog 105 1 = some 1 := by kernel_rfl
theorem fps105_1 : fieldPS Try.prog 105 1 = some (1, 12) := by kernel_rfl
theorem fot105_1 : fieldOT Try.prog 105 1 = some (1, 103) := by kernel_rfl
theorem fo105_2 : fieldOff Try.prog 105 2 = some 13 := by kernel_rfl
theorem fps105_2 : fieldPS Try.prog 105 2 = some (13, 1) := by kernel_rfl
theorem fot105_2 : fieldOT Try.prog 105 2 = some (13, 3) := by kernel_rfl
theorem sz107 : szT Try.prog 107 = 1 := by kernel_rfl
theorem by107 : bytesT Try.prog 107 = 24 := by kernel_rfl
theorem inf107 : (Try.prog.info? 107).isSome = true := by kernel_rfl
theorem agg107 : aggT Try.prog 107 = some false := by kernel_rfl
theorem zero107 : zeroT Try.prog 107 = some (.slice none 0 0) := by kernel_rfl
theorem sz109 : szT Try.prog 109 = 1 := by kernel_rfl
theorem by109 : bytesT Try.prog 109 = 8 := by kernel_rfl
theorem inf109 : (Try.prog.info? 109).isSome = true := by kernel_rfl
theorem agg109 : aggT Try.prog 109 = some false := by kernel_rfl
theorem zero109 : zeroT Try.prog 109 = some (.nilFunc) := by kernel_rfl
theorem sz111 : szT Try.prog 111 = 1 := by kernel_rfl
theorem by111 : bytesT Try.prog 111 = 24 := by kernel_rfl
theorem inf111 : (Try.prog.info? 111).isSome = true := by kernel_rfl
theorem agg111 : aggT Try.prog 111 = some false := by kernel_rfl
theorem zero111 : zeroT Try.prog 111 = some (.slice none 0 0) := by kernel_rfl
theorem sz114 : szT Try.prog 114 = 1 := by kernel_rfl
theorem by114 : bytesT Try.prog 114 = 8 := by kernel_rfl
theorem inf114 : (Try.prog.info? 114).isSome = true := by kernel_rfl
theorem agg114 : aggT Try.prog 114 = some false := by kernel_rfl
theorem zero114 : zeroT Try.prog 114 = some (.int .u64 0) := by kernel_rfl
theorem sz118 : szT Try.prog 118 = 1 := by kernel_rfl
theorem by118 : bytesT Try.prog 118 = 8 := by kernel_rfl
theorem inf118 : (Try.prog.info? 118).isSome = true := by kernel_rfl
theorem agg118 : aggT Try.prog 118 = some false := by kernel_rfl
theorem zero118 : zeroT Try.prog 118 = some (.int .i64 0) := by kernel_rfl
theorem sz126 : szT Try.prog 126 = 1 := by kernel_rfl
theorem by126 : bytesT Try.prog 126 = 8 := by kernel_rfl
theorem inf126 : (Try.prog.info? 126).isSome = true := by kernel_rfl
theorem agg126 : aggT Try.prog 126 = some false := by kernel_rfl
theorem zero126 : zeroT Try.prog 126 = some (.int .u64 0) := by kernel_rfl
theorem sz128 : szT Try.prog 128 = 1 := by kernel_rfl
theorem by128 : bytesT Try.prog 128 = 8 := by kernel_rfl
theorem inf128 : (Try.prog.info? 128).isSome = true := by kernel_rfl
theorem agg128 : aggT Try.prog 128 = some false := by kernel_rfl
theorem zero128 : zeroT Try.prog 128 = some (.int .u64 0) := by kernel_rfl
theorem sz132 : szT Try.prog 132 = 1 := by kernel_rfl
theorem by132 : bytesT Try.prog 132 = 8 := by kernel_rfl
theorem inf132 : (Try.prog.info? 132).isSome = true := by kernel_rfl
theorem agg132 : aggT Try.prog 132 = some false := by kernel_rfl
theorem zero132 : zeroT Try.prog 132 = some (.pointer none) := by kernel_rfl
theorem bod3 : bodied Try.prog 3 = true := by kernel_rfl
theorem bod4 : bodied Try.prog 4 = true := by kernel_rfl
theorem bod5 : bodied Try.prog 5 = true := by kernel_rfl
theorem bod6 : bodied Try.prog 6 = true := by kernel_rfl
theorem bod7 : bodied Try.prog 7 = true := by kernel_rfl
theorem bod8 : bodied Try.prog 8 = true := by kernel_rfl
theorem bod9 : bodied Try.prog 9 = true := by kernel_rfl
theorem bod10 : bodied Try.prog 10 = true := by kernel_rfl
theorem bod11 : bodied Try.prog 11 = true := by kernel_rfl
theorem bod12 : bodied Try.prog 12 = true := by kernel_rfl
theorem bod13 : bodied Try.prog 13 = true := by kernel_rfl
theorem bod14 : bodied Try.prog 14 = true := by kernel_rfl
theorem bod15 : bodied Try.prog 15 = true := by kernel_rfl
theorem bod16 : bodied Try.prog 16 = true := by kernel_rfl
theorem bod17 : bodied Try.prog 17 = true := by kernel_rfl
theorem bod18 : bodied Try.prog 18 = true := by kernel_rfl
theorem bod19 : bodied Try.prog 19 = true := by kernel_rfl
theorem bod20 : bodied Try.prog 20 = true := by kernel_rfl
theorem bod21 : bodied Try.prog 21 = true := by kernel_rfl
theorem bod22 : bodied Try.prog 22 = true := by kernel_rfl
theorem bod23 : bodied Try.prog 23 = true := by kernel_rfl
theorem bod24 : bodied Try.prog 24 = true := by kernel_rfl
theorem bod25 : bodied Try.prog 25 = true := by kernel_rfl
theorem bod26 : bodied Try.prog 26 = true := by kernel_rfl
theorem bod27 : bodied Try.prog 27 = true := by kernel_rfl
theorem bod28 : bodied Try.prog 28 = true := by kernel_rfl
theorem bod29 : bodied Try.prog 29 = true := by kernel_rfl
theorem bod30 : bodied Try.prog 30 = true := by kernel_rfl
theorem bod31 : bodied Try.prog 31 = true := by kernel_rfl
theorem bod32 : bodied Try.prog 32 = true := by kernel_rfl
theorem bod33 : bodied Try.prog 33 = true := by kernel_rfl
theorem bod34 : bodied Try.prog 34 = true := by kernel_rfl
theorem bod35 : bodied Try.prog 35 = true := by kernel_rfl
theorem bod36 : bodied Try.prog 36 = true := by kernel_rfl
theorem bod37 : bodied Try.prog 37 = true := by kernel_rfl
theorem bod38 : bodied Try.prog 38 = true := by kernel_rfl
theorem bod39 : bodied Try.prog 39 = true := by kernel_rfl
theorem bod40 : bodied Try.prog 40 = true := by kernel_rfl
theorem bod41 : bodied Try.prog 41 = true := by kernel_rfl
theorem bod42 : bodied Try.prog 42 = true := by kernel_rfl
theorem bod43 : bodied Try.prog 43 = true := by kernel_rfl
theorem bod44 : bodied Try.prog 44 = true := by kernel_rfl
theorem bod45 : bodied Try.prog 45 = true := by kernel_rfl
theorem bod46 : bodied Try.prog 46 = true := by kernel_rfl
theorem bod47 : bodied Try.prog 47 = true := by kernel_rfl
theorem bod48 : bodied Try.prog 48 = true := by kernel_rfl
theorem bod49 : bodied Try.prog 49 = true := by kernel_rfl
theorem bod50 : bodied Try.prog 50 = true := by kernel_rfl
theorem bod51 : bodied Try.prog 51 = true := by kernel_rfl
theorem bod52 : bodied Try.prog 52 = true := by kernel_rfl
theorem bod53 : bodied Try.prog 53 = true := by kernel_rfl
theorem bod54 : bodied Try.prog 54 = true := by kernel_rfl
theorem bod55 : bodied Try.prog 55 = true := by kernel_rfl
theorem bod56 : bodied Try.prog 56 = true := by kernel_rfl
theorem bod57 : bodied Try.prog 57 = true := by kernel_rfl
theorem bod58 : bodied Try.prog 58 = true := by kernel_rfl
theorem bod59 : bodied Try.prog 59 = true := by kernel_rfl
theorem bod60 : bodied Try.prog 60 = true := by kernel_rfl
theorem bod61 : bodied Try.prog 61 = true := by kernel_rfl
theorem bod62 : bodied Try.prog 62 = true := by kernel_rfl
theorem bod63 : bodied Try.prog 63 = true := by kernel_rfl
theorem bod64 : bodied Try.prog 64 = true := by kernel_rfl
theorem bod65 : bodied Try.prog 65 = true := by kernel_rfl
theorem bod66 : bodied Try.prog 66 = true := by kernel_rfl
theorem bod67 : bodied Try.prog 67 = true := by kernel_rfl
theorem bod68 : bodied Try.prog 68 = true := by kernel_rfl
theorem bod69 : bodied Try.prog 69 = true := by kernel_rfl
theorem bod70 : bodied Try.prog 70 = true := by kernel_rfl
theorem bod71 : bodied Try.prog 71 = true := by kernel_rfl
theorem bod72 : bodied Try.prog 72 = true := by kernel_rfl
theorem bod73 : bodied Try.prog 73 = true := by kernel_rfl
theorem bod74 : bodied Try.prog 74 = true := by kernel_rfl
theorem bod75 : bodied Try.prog 75 = true := by kernel_rfl
theorem bod76 : bodied Try.prog 76 = true := by kernel_rfl
theorem bod77 : bodied Try.prog 77 = true := by kernel_rfl
theorem bod78 : bodied Try.prog 78 = true := by kernel_rfl
theorem bod79 : bodied Try.prog 79 = true := by kernel_rfl
theorem bod80 : bodied Try.prog 80 = true := by kernel_rfl
theorem bod81 : bodied Try.prog 81 = true := by kernel_rfl
theorem bod82 : bodied Try.prog 82 = true := by kernel_rfl
theorem bod83 : bodied Try.prog 83 = true := by kernel_rfl
theorem bod84 : bodied Try.prog 84 = true := by kernel_rfl
theorem bod85 : bodied Try.prog 85 = true := by kernel_rfl
theorem bod86 : bodied Try.prog 86 = true := by kernel_rfl
theorem bod87 : bodied Try.prog 87 = true := by kernel_rfl
theorem bod88 : bodied Try.prog 88 = true := by kernel_rfl
theorem bod89 : bodied Try.prog 89 = true := by kernel_rfl
theorem bod90 : bodied Try.prog 90 = true := by kernel_rfl
theorem bod91 : bodied Try.prog 91 = true := by kernel_rfl
theorem bod92 : bodied Try.prog 92 = true := by kernel_rfl
theorem bod93 : bodied Try.prog 93 = true := by kernel_rfl
theorem bod94 : bodied Try.prog 94 = true := by kernel_rfl
theorem bod95 : bodied Try.prog 95 = true := by kernel_rfl
theorem bod96 : bodied Try.prog 96 = true := by kernel_rfl
theorem bod97 : bodied Try.prog 97 = true := by kernel_rfl
theorem bod98 : bodied Try.prog 98 = true := by kernel_rfl
theorem bod99 : bodied Try.prog 99 = true := by kernel_rfl
theorem bod100 : bodied Try.prog 100 = true := by kernel_rfl
theorem bod101 : bodied Try.prog 101 = true := by kernel_rfl
theorem bod102 : bodied Try.prog 102 = true := by kernel_rfl
theorem bod103 : bodied Try.prog 103 = true := by kernel_rfl
theorem bod104 : bodied Try.prog 104 = true := by kernel_rfl
theorem bod105 : bodied Try.prog 105 = true := by kernel_rfl
theorem bod106 : bodied Try.prog 106 = true := by kernel_rfl
theorem bod107 : bodied Try.prog 107 = true := by kernel_rfl
theorem bod108 : bodied Try.prog 108 = true := by kernel_rfl
theorem bod109 : bodied Try.prog 109 = true := by kernel_rfl
theorem bod110 : bodied Try.prog 110 = true := by kernel_rfl
theorem bod111 : bodied Try.prog 111 = true := by kernel_rfl
theorem bod112 : bodied Try.prog 112 = true := by kernel_rfl
theorem bod113 : bodied Try.prog 113 = true := by kernel_rfl
theorem bod114 : bodied Try.prog 114 = true := by kernel_rfl
theorem bod115 : bodied Try.prog 115 = true := by kernel_rfl
theorem bod116 : bodied Try.prog 116 = true := by kernel_rfl
theorem bod117 : bodied Try.prog 117 = true := by kernel_rfl
theorem bod118 : bodied Try.prog 118 = true := by kernel_rfl
theorem bod119 : bodied Try.prog 119 = true := by kernel_rfl
theorem bod120 : bodied Try.prog 120 = true := by kernel_rfl
theorem bod121 : bodied Try.prog 121 = true := by kernel_rfl
theorem bod122 : bodied Try.prog 122 = true := by kernel_rfl
theorem bod123 : bodied Try.prog 123 = true := by kernel_rfl
theorem bod124 : bodied Try.prog 124 = true := by kernel_rfl
theorem bod125 : bodied Try.prog 125 = true := by kernel_rfl
theorem bod126 : bodied Try.prog 126 = true := by kernel_rfl
end Go.Proofs.Ytoediaepoddonaa.Tab
