/- The statement on rims and turns, with the examples of the layers. No condition. -/
import Derived.Test.YtljjlhbbcjjmlaaGreatDoorRW4
import Derived.Test.YtljjlhbbcjjmlaaGreatDoorWs
namespace Go.Proofs.YtljjlhbbcjjmlaaGreatDoor
open Go Go.Proofs Go.Eng Go.Run
theorem rimmed (n0:Int)(b:Option Addr)(m k:Nat)(by_:List Int)(n2:Int)(h:Eng.Heap)(h0:0<=n0/\n0<=255)(hm:m=by_.length/\m<=k)(hb:Row h b (pX by_))(_:m<=9223372036854775807)(hby:∀x∈by_,0<=x/\x<=255)(h2:0<=n2/\n2<=255):
 ak Tryz.prog 3 #[.int .u8 n0,.slice b m k,.int .u8 n2] h (fun v h'=>v= .bool true/\Ext h h'):=rimmed3 Ws.works5 n0 b m k by_ n2 h h0 hb hm.1 hby h2
end Go.Proofs.YtljjlhbbcjjmlaaGreatDoor
