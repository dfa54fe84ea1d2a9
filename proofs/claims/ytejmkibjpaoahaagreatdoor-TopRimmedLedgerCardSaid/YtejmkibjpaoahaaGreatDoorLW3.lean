/- The statement on rims and accounts, with the examples of the layers. No condition. -/
import Derived.Test.YtejmkibjpaoahaaGreatDoorR3
import Derived.Test.YtejmkibjpaoahaaGreatDoorWs
namespace Go.Proofs.YtejmkibjpaoahaaGreatDoor
open Go Go.Proofs Go.Eng Go.Run
theorem rimmed (k:Int)(a:Option Addr)(n c:Nat)(xs:List Int)(m:Int)(h:Eng.Heap)(hs:eu h a n xs)(hc:n<=c)(_:c<=maxLen)(hm:0<=m/\m<=255):
 ak Tryz.prog 5 #[.int .i64 k,.slice a n c,.int .u8 m] h (fun v h'=>v= .bool true/\Ext h h'):=rimmed5 Ws.works7 k a n c xs m h hs hc hm
end Go.Proofs.YtejmkibjpaoahaaGreatDoor
