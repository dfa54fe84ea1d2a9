/- The statement on melts and accounts, with the examples of the layers. No condition. -/
import Derived.Test.YtejmkibjpaoahaaGreatDoorS4
import Derived.Test.YtejmkibjpaoahaaGreatDoorWs
namespace Go.Proofs.YtejmkibjpaoahaaGreatDoor
open Go Go.Proofs Go.Eng Go.Run
theorem zZf (a:Option Addr)(n c:Nat)(es:List En)(b:Option Addr)(m d:Nat)(o:List Int)(num:Int)(h:Eng.Heap)(F:Fx h)(hr:Row h a (zOS es))(hn:n=es.length)(hb:Row h b (ints o))(hm:o.length=2*m)(hnum:0<=num/\num<=255):
 ak Tryz.prog 4 #[.slice a n c,.slice b m d,.int .u8 num] h (fun v h'=>v= .bool true/\Ext h h'):=
 zWW Ws.works7 a n c es b m d o num h hr hn hb hm hnum (zVA h F)
end Go.Proofs.YtejmkibjpaoahaaGreatDoor
