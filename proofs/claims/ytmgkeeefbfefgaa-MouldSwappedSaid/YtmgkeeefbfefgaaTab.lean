/- The facts on the types and functions of the program that the walks use, each closed. No condition. -/
import Derived.Test.YtmgkeeefbfefgaaProg
import Derived.Test.YtmgkeeefbfefgaaEng
import Derived.KernelRfl
namespace Go.Proofs.Ytmgkeeefbfefgaa.Tab
open Go Go.Proofs Go.Eng
theorem sz3 : szT Try.prog 3 = 1 := by kernel_rfl
theorem by3 : bytesT Try.prog 3 = 8 := by kernel_rfl
theorem inf3 : (Try.prog.info? 3).isSome = true := by kernel_rfl
theorem agg3 : aggT Try.prog 3 = some false := by kernel_rfl
theorem zero3 : zeroT Try.prog 3 = some (.int .i64 0) := by kernel_rfl
theorem sz4 : szT Try.prog 4 = 1 := by kernel_rfl
theorem by4 : bytesT Try.prog 4 = 1 := by kernel_rfl
theorem inf4 : (Try.prog.info? 4).isSome = true := by kernel_rfl
theorem agg4 : aggT Try.prog 4 = some false := by kernel_rfl
theorem zero4 : zeroT Try.prog 4 = some (.bool false) := by kernel_rfl
theorem sz5 : szT Try.prog 5 = 1 := by kernel_rfl
theorem by5 : bytesT Try.prog 5 = 1 := by kernel_rfl
theorem inf5 : (Try.prog.info? 5).isSome = true := by kernel_rfl
theorem agg5 : aggT Try.prog 5 = some false := by kernel_rfl
theorem zero5 : zeroT Try.prog 5 = some (.int .u8 0) := by kernel_rfl
theorem sz9 : szT Try.prog 9 = 1 := by kernel_rfl
theorem by9 : bytesT Try.prog 9 = 16 := by kernel_rfl
theorem inf9 : (Try.prog.info? 9).isSome = true := by kernel_rfl
theorem agg9 : aggT Try.prog 9 = some false := by kernel_rfl
theorem zero9 : zeroT Try.prog 9 = some (.string ByteArray.empty) := by kernel_rfl
theorem sz22 : szT Try.prog 22 = 1 := by kernel_rfl
theorem by22 : bytesT Try.prog 22 = 24 := by kernel_rfl
theorem inf22 : (Try.prog.info? 22).isSome = true := by kernel_rfl
theorem agg22 : aggT Try.prog 22 = some false := by kernel_rfl
theorem zero22 : zeroT Try.prog 22 = some (.slice none 0 0) := by kernel_rfl
theorem sz24 : szT Try.prog 24 = 3 := by kernel_rfl
theorem by24 : bytesT Try.prog 24 = 40 := by kernel_rfl
theorem inf24 : (Try.prog.info? 24).isSome = true := by kernel_rfl
theorem agg24 : aggT Try.prog 24 = some true := by kernel_rfl
theorem zero24 : zeroT Try.prog 24 = some (.agg #[.int .i64 0, .int .i64 0, .slice none 0 0]) := by kernel_rfl
theorem okf24 : okFields Try.prog 24 = true := by kernel_rfl
theorem fo24_0 : fieldOff Try.prog 24 0 = some 0 := by kernel_rfl
theorem fps24_0 : fieldPS Try.prog 24 0 = some (0, 1) := by kernel_rfl
theorem fot24_0 : fieldOT Try.prog 24 0 = some (0, 3) := by kernel_rfl
theorem fo24_1 : fieldOff Try.prog 24 1 = some 1 := by kernel_rfl
theorem fps24_1 : fieldPS Try.prog 24 1 = some (1, 1) := by kernel_rfl
theorem fot24_1 : fieldOT Try.prog 24 1 = some (1, 3) := by kernel_rfl
theorem fo24_2 : fieldOff Try.prog 24 2 = some 2 := by kernel_rfl
theorem fps24_2 : fieldPS Try.prog 24 2 = some (2, 1) := by kernel_rfl
theorem fot24_2 : fieldOT Try.prog 24 2 = some (2, 22) := by kernel_rfl
theorem sz25 : szT Try.prog 25 = 1 := by kernel_rfl
theorem by25 : bytesT Try.prog 25 = 24 := by kernel_rfl
theorem inf25 : (Try.prog.info? 25).isSome = true := by kernel_rfl
theorem agg25 : aggT Try.prog 25 = some false := by kernel_rfl
theorem zero25 : zeroT Try.prog 25 = some (.slice none 0 0) := by kernel_rfl
theorem sz29 : szT Try.prog 29 = 1 := by kernel_rfl
theorem by29 : bytesT Try.prog 29 = 8 := by kernel_rfl
theorem inf29 : (Try.prog.info? 29).isSome = true := by kernel_rfl
theorem agg29 : aggT Try.prog 29 = some false := by kernel_rfl
theorem zero29 : zeroT Try.prog 29 = some (.int .i64 0) := by kernel_rfl
theorem sz42 : szT Try.prog 42 = 1 := by kernel_rfl
theorem by42 : bytesT Try.prog 42 = 24 := by kernel_rfl
theorem inf42 : (Try.prog.info? 42).isSome = true := by kernel_rfl
theorem agg42 : aggT Try.prog 42 = some false := by kernel_rfl
theorem zero42 : zeroT Try.prog 42 = some (.slice none 0 0) := by kernel_rfl
theorem sz49 : szT Try.prog 49 = 1 := by kernel_rfl
theorem by49 : bytesT Try.prog 49 = 2 := by kernel_rfl
theorem inf49 : (Try.prog.info? 49).isSome = true := by kernel_rfl
theorem agg49 : aggT Try.prog 49 = some false := by kernel_rfl
theorem zero49 : zeroT Try.prog 49 = some (.int .u16 0) := by kernel_rfl
theorem sz58 : szT Try.prog 58 = 2 := by kernel_rfl
theorem by58 : bytesT Try.prog 58 = 16 := by kernel_rfl
theorem inf58 : (Try.prog.info? 58).isSome = true := by kernel_rfl
theorem agg58 : aggT Try.prog 58 = some true := by kernel_rfl
theorem zero58 : zeroT Try.prog 58 = some (.agg #[.int .i64 0, .int .i64 0]) := by kernel_rfl
theorem okf58 : okFields Try.prog 58 = true := by kernel_rfl
theorem fo58_0 : fieldOff Try.prog 58 0 = some 0 := by kernel_rfl
theorem fps58_0 : fieldPS Try.prog 58 0 = some (0, 1) := by kernel_rfl
theorem fot58_0 : fieldOT Try.prog 58 0 = some (0, 3) := by kernel_rfl
theorem fo58_1 : fieldOff Try.prog 58 1 = some 1 := by kernel_rfl
theorem fps58_1 : fieldPS Try.prog 58 1 = some (1, 1) := by kernel_rfl
theorem fot58_1 : fieldOT Try.prog 58 1 = some (1, 3) := by kernel_rfl
theorem sz64 : szT Try.prog 64 = 1 := by kernel_rfl
theorem by64 : bytesT Try.prog 64 = 8 := by kernel_rfl
theorem inf64 : (Try.prog.info? 64).isSome = true := by kernel_rfl
theorem agg64 : aggT Try.prog 64 = some false := by kernel_rfl
theorem zero64 : zeroT Try.prog 64 = some (.pointer none) := by kernel_rfl
theorem sz68 : szT Try.prog 68 = 6 := by kernel_rfl
theorem by68 : bytesT Try.prog 68 = 48 := by kernel_rfl
theorem inf68 : (Try.prog.info? 68).isSome = true := by kernel_rfl
theorem agg68 : aggT Try.prog 68 = some true := by kernel_rfl
theorem zero68 : zeroT Try.prog 68 = some (.agg #[.int .i64 0, .int .i64 0, .int .i64 0, .int .i64 0, .int .i64 0, .int .i64 0]) := by kernel_rfl
theorem sz74 : szT Try.prog 74 = 1 := by kernel_rfl
theorem by74 : bytesT Try.prog 74 = 8 := by kernel_rfl
theorem inf74 : (Try.prog.info? 74).isSome = true := by kernel_rfl
theorem agg74 : aggT Try.prog 74 = some false := by kernel_rfl
theorem zero74 : zeroT Try.prog 74 = some (.nilFunc) := by kernel_rfl
theorem sz77 : szT Try.prog 77 = 1 := by kernel_rfl
theorem by77 : bytesT Try.prog 77 = 8 := by kernel_rfl
theorem inf77 : (Try.prog.info? 77).isSome = true := by kernel_rfl
theorem agg77 : aggT Try.prog 77 = some false := by kernel_rfl
theorem zero77 : zeroT Try.prog 77 = some (.nilFunc) := by kernel_rfl
theorem sz81 : szT Try.prog 81 = 1 := by kernel_rfl
theorem by81 : bytesT Try.prog 81 = 8 := by kernel_rfl
theorem inf81 : (Try.prog.info? 81).isSome = true := by kernel_rfl
theorem agg81 : aggT Try.prog 81 = some false := by kernel_rfl
theorem zero81 : zeroT Try.prog 81 = some (.nilFunc) := by kernel_rfl
theorem sz83 : szT Try.prog 83 = 1 := by kernel_rfl
theorem by83 : bytesT Try.prog 83 = 8 := by kernel_rfl
theorem inf83 : (Try.prog.info? 83).isSome = true := by kernel_rfl
theorem agg83 : aggT Try.prog 83 = some false := by kernel_rfl
theorem zero83 : zeroT Try.prog 83 = some (.map none) := by kernel_rfl
theorem sz86 : szT Try.prog 86 = 1 := by kernel_rfl
theorem by86 : bytesT Try.prog 86 = 8 := by kernel_rfl
theorem inf86 : (Try.prog.info? 86).isSome = true := by kernel_rfl
theorem agg86 : aggT Try.prog 86 = some false := by kernel_rfl
theorem zero86 : zeroT Try.prog 86 = some (.nilFunc) := by kernel_rfl
theorem sz97 : szT Try.prog 97 = 1 := by kernel_rfl
theorem by97 : bytesT Try.prog 97 = 8 := by kernel_rfl
theorem inf97 : (Try.prog.info? 97).isSome = true := by kernel_rfl
theorem agg97 : aggT Try.prog 97 = some false := by kernel_rfl
theorem zero97 : zeroT Try.prog 97 = some (.map none) := by kernel_rfl
theorem sz99 : szT Try.prog 99 = 4 := by kernel_rfl
theorem by99 : bytesT Try.prog 99 = 48 := by kernel_rfl
theorem inf99 : (Try.prog.info? 99).isSome = true := by kernel_rfl
theorem agg99 : aggT Try.prog 99 = some true := by kernel_rfl
theorem zero99 : zeroT Try.prog 99 = some (.agg #[.int .i64 0, .int .i64 0, .slice none 0 0, .map none]) := by kernel_rfl
theorem okf99 : okFields Try.prog 99 = true := by kernel_rfl
theorem fo99_0 : fieldOff Try.prog 99 0 = some 0 := by kernel_rfl
theorem fps99_0 : fieldPS Try.prog 99 0 = some (0, 3) := by kernel_rfl
theorem fot99_0 : fieldOT Try.prog 99 0 = some (0, 24) := by kernel_rfl
theorem fo99_1 : fieldOff Try.prog 99 1 = some 3 := by kernel_rfl
theorem fps99_1 : fieldPS Try.prog 99 1 = some (3, 1) := by kernel_rfl
theorem fot99_1 : fieldOT Try.prog 99 1 = some (3, 97) := by kernel_rfl
theorem sz101 : szT Try.prog 101 = 3 := by kernel_rfl
theorem by101 : bytesT Try.prog 101 = 24 := by kernel_rfl
theorem inf101 : (Try.prog.info? 101).isSome = true := by kernel_rfl
theorem agg101 : aggT Try.prog 101 = some true := by kernel_rfl
theorem zero101 : zeroT Try.prog 101 = some (.agg #[.int .i64 0, .int .i64 0, .int .i64 0]) := by kernel_rfl
theorem okf101 : okFields Try.prog 101 = true := by kernel_rfl
theorem fo101_0 : fieldOff Try.prog 101 0 = some 0 := by kernel_rfl
theorem fps101_0 : fieldPS Try.prog 101 0 = some (0, 1) := by kernel_rfl
theorem fot101_0 : fieldOT Try.prog 101 0 = some (0, 3) := by kernel_rfl
theorem fo101_1 : fieldOff Try.prog 101 1 = some 1 := by kernel_rfl
theorem fps101_1 : fieldPS Try.prog 101 1 = some (1, 1) := by kernel_rfl
theorem fot101_1 : fieldOT Try.prog 101 1 = some (1, 3) := by kernel_rfl
theorem fo101_2 : fieldOff Try.prog 101 2 = some 2 := by kernel_rfl
theorem fps101_2 : fieldPS Try.prog 101 2 = some (2, 1) := by kernel_rfl
theorem fot101_2 : fieldOT Try.prog 101 2 = some (2, 3) := by kernel_rfl
theorem sz102 : szT Try.prog 102 = 6 := by kernel_rfl
theorem by102 : bytesT Try.prog 102 = 48 := by kernel_rfl
theorem inf102 : (Try.prog.info? 102).isSome = true := by kernel_rfl
theorem agg102 : aggT Try.prog 102 = some true := by kernel_rfl
theorem zero102 : zeroT Try.prog 102 = some (.agg #[.int .i64 0, .int .i64 0, .int .i64 0, .int .i64 0, .int .i64 0, .int .i64 0]) := by kernel_rfl
theorem sz106 : szT Try.prog 106 = 1 := by kernel_rfl
theorem by106 : bytesT Try.prog 106 = 8 := by kernel_rfl
theorem inf106 : (Try.prog.info? 106).isSome = true := by kernel_rfl
theorem agg106 : aggT Try.prog 106 = some false := by kernel_rfl
theorem zero106 : zeroT Try.prog 106 = some (.nilFunc) := by kernel_rfl
theorem sz111 : szT Try.prog 111 = 1 := by kernel_rfl
theorem by111 : bytesT Try.prog 111 = 8 := by kernel_rfl
theorem inf111 : (Try.prog.info? 111).isSome = true := by kernel_rfl
theorem agg111 : aggT Try.prog 111 = some false := by kernel_rfl
theorem zero111 : zeroT Try.prog 111 = some (.int .u64 0) := by kernel_rfl
theorem sz117 : szT Try.prog 117 = 1 := by kernel_rfl
theorem by117 : bytesT Try.prog 117 = 8 := by kernel_rfl
theorem inf117 : (Try.prog.info? 117).isSome = true := by kernel_rfl
theorem agg117 : aggT Try.prog 117 = some false := by kernel_rfl
theorem zero117 : zeroT Try.prog 117 = some (.int .i64 0) := by kernel_rfl
theorem sz123 : szT Try.prog 123 = 1 := by kernel_rfl
theorem by123 : bytesT Try.prog 123 = 4 := by kernel_rfl
theorem inf123 : (Try.prog.info? 123).isSome = true := by kernel_rfl
theorem agg123 : aggT Try.prog 123 = some false := by kernel_rfl
theorem zero123 : zeroT Try.prog 123 = some (.int .u32 0) := by kernel_rfl
theorem sz125 : szT Try.prog 125 = 1 := by kernel_rfl
theorem by125 : bytesT Try.prog 125 = 8 := by kernel_rfl
theorem inf125 : (Try.prog.info? 125).isSome = true := by kernel_rfl
theorem agg125 : aggT Try.prog 125 = some false := by kernel_rfl
theorem zero125 : zeroT Try.prog 125 = some (.int .u64 0) := by kernel_rfl
theorem sz128 : szT Try.prog 128 = 1 := by kernel_rfl
theorem by128 : bytesT Try.prog 128 = 8 := by kernel_rfl
theorem inf128 : (Try.prog.info? 128).isSome = true := by kernel_rfl
theorem agg128 : aggT Try.prog 128 = some false := by kernel_rfl
theorem zero128 : zeroT Try.prog 128 = some (.int .u64 0) := by kernel_rfl
theorem sz132 : szT Try.prog 132 = 1 := by kernel_rfl
theorem by132 : bytesT Try.prog 132 = 8 := by kernel_rfl
theorem inf132 : (Try.prog.info? 132).isSome = true := by kernel_rfl
theorem agg132 : aggT Try.prog 132 = some false := by kernel_rfl
theorem zero132 : zeroT Try.prog 132 = some (.pointer none) := by kernel_rfl
theorem bod3 : bodied Try.prog 3 = true := by kernel_rfl
theorem bod4 : bodied Try.prog 4 = true := by kernel_rfl
theorem bod5 : bodied Try.prog 5 = true := by kernel_rfl
theorem bod6 : bodied Try.prog 6 = true := by kernel_rfl
theorem bod7 : bodied Try.prog 7 = true := by kernel_rfl
theorem bod8 : bodied Try.prog 8 = true := by kernel_rfl
theorem bod9 : bodied Try.prog 9 = true := by kernel_rfl
theorem bod10 : bodied Try.prog 10 = true := by kernel_rfl
theorem bod11 : bodied Try.prog 11 = true := by kernel_rfl
theorem bod12 : bodied Try.prog 12 = true := by kernel_rfl
theorem bod13 : bodied Try.prog 13 = true := by kernel_rfl
theorem bod14 : bodied Try.prog 14 = true := by kernel_rfl
theorem bod15 : bodied Try.prog 15 = true := by kernel_rfl
theorem bod16 : bodied Try.prog 16 = true := by kernel_rfl
theorem bod17 : bodied Try.prog 17 = true := by kernel_rfl
theorem bod18 : bodied Try.prog 18 = true := by kernel_rfl
theorem bod19 : bodied Try.prog 19 = true := by kernel_rfl
theorem bod20 : bodied Try.prog 20 = true := by kernel_rfl
theorem bod21 : bodied Try.prog 21 = true := by kernel_rfl
theorem bod22 : bodied Try.prog 22 = true := by kernel_rfl
theorem bod23 : bodied Try.prog 23 = true := by kernel_rfl
theorem bod24 : bodied Try.prog 24 = true := by kernel_rfl
theorem bod25 : bodied Try.prog 25 = true := by kernel_rfl
theorem bod26 : bodied Try.prog 26 = true := by kernel_rfl
theorem bod27 : bodied Try.prog 27 = true := by kernel_rfl
theorem bod28 : bodied Try.prog 28 = true := by kernel_rfl
theorem bod29 : bodied Try.prog 29 = true := by kernel_rfl
theorem bod30 : bodied Try.prog 30 = true := by kernel_rfl
theorem bod31 : bodied Try.prog 31 = true := by kernel_rfl
theorem bod32 : bodied Try.prog 32 = true := by kernel_rfl
theorem bod33 : bodied Try.prog 33 = true := by kernel_rfl
theorem bod34 : bodied Try.prog 34 = true := by kernel_rfl
theorem bod35 : bodied Try.prog 35 = true := by kernel_rfl
theorem bod36 : bodied Try.prog 36 = true := by kernel_rfl
theorem bod37 : bodied Try.prog 37 = true := by kernel_rfl
theorem bod38 : bodied Try.prog 38 = true := by kernel_rfl
theorem bod39 : bodied Try.prog 39 = true := by kernel_rfl
theorem bod40 : bodied Try.prog 40 = true := by kernel_rfl
theorem bod41 : bodied Try.prog 41 = true := by kernel_rfl
theorem bod42 : bodied Try.prog 42 = true := by kernel_rfl
theorem bod43 : bodied Try.prog 43 = true := by kernel_rfl
theorem bod44 : bodied Try.prog 44 = true := by kernel_rfl
theorem bod45 : bodied Try.prog 45 = true := by kernel_rfl
theorem bod46 : bodied Try.prog 46 = true := by kernel_rfl
theorem bod47 : bodied Try.prog 47 = true := by kernel_rfl
theorem bod48 : bodied Try.prog 48 = true := by kernel_rfl
theorem bod49 : bodied Try.prog 49 = true := by kernel_rfl
theorem bod50 : bodied Try.prog 50 = true := by kernel_rfl
theorem bod51 : bodied Try.prog 51 = true := by kernel_rfl
theorem bod52 : bodied Try.prog 52 = true := by kernel_rfl
theorem bod53 : bodied Try.prog 53 = true := by kernel_rfl
theorem bod54 : bodied Try.prog 54 = true := by kernel_rfl
theorem bod55 : bodied Try.prog 55 = true := by kernel_rfl
theorem bod56 : bodied Try.prog 56 = true := by kernel_rfl
theorem bod57 : bodied Try.prog 57 = true := by kernel_rfl
theorem bod58 : bodied Try.prog 58 = true := by kernel_rfl
theorem bod59 : bodied Try.prog 59 = true := by kernel_rfl
theorem bod60 : bodied Try.prog 60 = true := by kernel_rfl
theorem bod61 : bodied Try.prog 61 = true := by kernel_rfl
theorem bod62 : bodied Try.prog 62 = true := by kernel_rfl
theorem bod63 : bodied Try.prog 63 = true := by kernel_rfl
theorem bod64 : bodied Try.prog 64 = true := by kernel_rfl
theorem bod65 : bodied Try.prog 65 = true := by kernel_rfl
theorem bod66 : bodied Try.prog 66 = true := by kernel_rfl
theorem bod67 : bodied Try.prog 67 = true := by kernel_rfl
theorem bod68 : bodied Try.prog 68 = true := by kernel_rfl
theorem bod69 : bodied Try.prog 69 = true := by kernel_rfl
theorem bod70 : bodied Try.prog 70 = true := by kernel_rfl
theorem bod71 : bodied Try.prog 71 = true := by kernel_rfl
theorem bod72 : bodied Try.prog 72 = true := by kernel_rfl
theorem bod73 : bodied Try.prog 73 = true := by kernel_rfl
theorem bod74 : bodied Try.prog 74 = true := by kernel_rfl
theorem bod75 : bodied Try.prog 75 = true := by kernel_rfl
theorem bod76 : bodied Try.prog 76 = true := by kernel_rfl
theorem bod77 : bodied Try.prog 77 = true := by kernel_rfl
theorem bod78 : bodied Try.prog 78 = true := by kernel_rfl
theorem bod79 : bodied Try.prog 79 = true := by kernel_rfl
theorem bod80 : bodied Try.prog 80 = true := by kernel_rfl
theorem bod81 : bodied Try.prog 81 = true := by kernel_rfl
theorem bod82 : bodied Try.prog 82 = true := by kernel_rfl
theorem bod83 : bodied Try.prog 83 = true := by kernel_rfl
theorem bod84 : bodied Try.prog 84 = true := by kernel_rfl
theorem bod85 : bodied Try.prog 85 = true := by kernel_rfl
theorem bod86 : bodied Try.prog 86 = true := by kernel_rfl
theorem bod87 : bodied Try.prog 87 = true := by kernel_rfl
theorem bod88 : bodied Try.prog 88 = true := by kernel_rfl
theorem bod89 : bodied Try.prog 89 = true := by kernel_rfl
theorem bod90 : bodied Try.prog 90 = true := by kernel_rfl
theorem bod91 : bodied Try.prog 91 = true := by kernel_rfl
theorem bod92 : bodied Try.prog 92 = true := by kernel_rfl
theorem bod93 : bodied Try.prog 93 = true := by kernel_rfl
theorem bod94 : bodied Try.prog 94 = true := by kernel_rfl
theorem bod95 : bodied Try.prog 95 = true := by kernel_rfl
theorem bod96 : bodied Try.prog 96 = true := by kernel_rfl
theorem bod97 : bodied Try.prog 97 = true := by kernel_rfl
theorem bod98 : bodied Try.prog 98 = true := by kernel_rfl
theorem bod99 : bodied Try.prog 99 = true := by kernel_rfl
theorem bod100 : bodied Try.prog 100 = true := by kernel_rfl
theorem bod101 : bodied Try.prog 101 = true := by kernel_rfl
theorem bod102 : bodied Try.prog 102 = true := by kernel_rfl
theorem bod103 : bodied Try.prog 103 = true := by kernel_rfl
theorem bod104 : bodied Try.prog 104 = true := by kernel_rfl
theorem bod105 : bodied Try.prog 105 = true := by kernel_rfl
theorem bod106 : bodied Try.prog 106 = true := by kernel_rfl
theorem bod107 : bodied Try.prog 107 = true := by kernel_rfl
theorem bod108 : bodied Try.prog 108 = true := by kernel_rfl
theorem bod109 : bodied Try.prog 109 = true := by kernel_rfl
theorem bod110 : bodied Try.prog 110 = true := by kernel_rfl
theorem bod111 : bodied Try.prog 111 = true := by kernel_rfl
theorem bod112 : bodied Try.prog 112 = true := by kernel_rfl
theorem bod113 : bodied Try.prog 113 = true := by kernel_rfl
theorem bod114 : bodied Try.prog 114 = true := by kernel_rfl
theorem bod115 : bodied Try.prog 115 = true := by kernel_rfl
theorem bod116 : bodied Try.prog 116 = true := by kernel_rfl
theorem bod117 : bodied Try.prog 117 = true := by kernel_rfl
theorem bod118 : bodied Try.prog 118 = true := by kernel_rfl
theorem bod119 : bodied Try.prog 119 = true := by kernel_rfl
theorem bod120 : bodied Try.prog 120 = true := by kernel_rfl
theorem bod121 : bodied Try.prog 121 = true := by kernel_rfl
end Go.Proofs.Ytmgkeeefbfefgaa.Tab
