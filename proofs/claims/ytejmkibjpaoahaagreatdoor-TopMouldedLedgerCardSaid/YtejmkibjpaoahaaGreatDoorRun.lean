/- Lemmas. No condition. -/
import Derived.Test.YtejmkibjpaoahaaGreatDoorEng
import Derived.Lib.Bytealg
open Nat renaming beq→aX,ble→bn,succ→cK,blt→kV,sub→yw,div→KN,rec→Rc
set_option linter.unusedVariables false
set_option linter.unusedSimpArgs false
namespace Go.Run
open Go Go.Eng
@[reducible] noncomputable def ite {α:Type} (b:Bool) (x y:α):α:=Bool.rec (motive:=fun _=>α) y x b
@[reducible] noncomputable def bnd {α β:Type} (o:Option α) (f:α->Option β):Option β:=Option.rec (motive:=fun _=>Option β) none f o
inductive En (α:Type) where
 |leaf (v:α)
 |node (l r:En α)
inductive Pa where
 |e
 |o (p:Pa)
 |i (p:Pa)
 deriving DecidableEq
noncomputable def Pa.of (d:Nat):Nat->Pa:=
 Rc (motive:=fun _=>Nat->Pa) (fun _=> .e) (fun _ ih n=>ite (aX (Nat.mod n 2) 0) (.o (ih (KN n 2))) (.i (ih (KN n 2)))) d
noncomputable def En.lf {α:Type}(t:En α):α:=En.rec (motive:=fun _=>α) (fun v=>v) (fun _ _ a _=>a) t
noncomputable def En.get {α:Type}(q:Pa):En α->α:=
 Pa.rec (motive:=fun _=>En α->α) (fun t=>t.lf)
  (fun _ ih t=>En.rec (motive:=fun _=>α) (fun v=>v) (fun l _ _ _=>ih l) t)
  (fun _ ih t=>En.rec (motive:=fun _=>α) (fun v=>v) (fun _ r _ _=>ih r) t) q
noncomputable def En.eU {α β:Type}(q:Pa)(v:α):En α->(En α->β)->β:=
 Pa.rec (motive:=fun _=>En α->(En α->β)->β) (fun _ k=>k (.leaf v))
  (fun _ ih t k=>En.rec (motive:=fun _=>β) (fun w=>ih (.leaf w) fun l=>k (.node l (.leaf w))) (fun l r _ _=>ih l fun l=>k (.node l r)) t)
  (fun _ ih t k=>En.rec (motive:=fun _=>β) (fun w=>ih (.leaf w) fun r=>k (.node (.leaf w) r)) (fun l r _ _=>ih r fun r=>k (.node l r)) t) q
inductive T where
 |bool (b:Bool)
 |int (k:IntKind) (n:Int)
 |str (s:List UInt8)
 |rZ
 |ptr (b o:Nat)
 |dh
 |slice (b o len cap:Nat)
 |own (b len:Nat)
 |sub (b o len:Nat)
 |empty
 |pY
 |map (b:Nat)
 |func (fn:Fn) (first caps:List T)
 |nC
 |iM
 |agg (cs:List T)
 |tup (vs:List T)
 |any
 |res (k:IntKind) (m r lo hi:Int)
 deriving Inhabited
noncomputable def ij (n:Int):T:= .int .i64 n
inductive VO where
 |row (cs:List T) (ct:TypeId) (tail:Bool)
 |ro (cs:List T) (ct:TypeId)
 |map (es:List (T×T×Nat)) (clock:Nat)
 |pO (s:List UInt8) (pos:Nat)
 |iU (m:Nat) (since:Nat) (seen:List Nat) (last:Nat)
 |loop (st:LoopState) (pending:Option Code) (dp n:Nat) (tmps:En T) (params:List Tmp) (assign body:Code) (defers:Nat)
 |uf (open_:Bool)
 |tZ (es:List (T×T×Nat)) (j:Nat) (del:Bool)
 |pick (m:Nat)
 |bag (els:List (List T)) (ct:TypeId)
 |iB (m:Nat) (since:Nat) (w:Nat) (last:Nat)
 |iG (m:Nat) (since:Nat) (seen:List Nat) (last:Nat)
 |BL (m:Nat) (since:Nat) (k:Nat) (bs:List Nat)
 deriving Inhabited
structure S where
 V:En (Option VO)
 nx:Nat
 low:Nat
structure Fm where
 dp:Nat
 n:Nat
abbrev E:=En T
noncomputable def fB:T:= .tup []
noncomputable def bu (m:Fm)(e:E)(t:Nat):T:=ite (bn (cK t) m.n) (En.get (Pa.of m.dp t) e) fB
noncomputable def S.at (s:S)(b:Nat):Option VO:=ite (bn b 16383) (En.get (Pa.of 14 b) s.V) none
noncomputable def dP {β:Type}(n:Nat)(k:Nat->β):β:=Rc (motive:=fun _=>β) (k 0) (fun m _=>k (cK m)) n
noncomputable def U7 {β:Type}(n:Int)(k:Int->β):β:=Int.rec (motive:=fun _=>β) (fun a=>dP a fun a=>k (.ofNat a)) (fun a=>dP a fun a=>k (.negSucc a)) n
noncomputable def force {β:Type}(v:T)(k:T->β):β:=
 match v with
 | .bool b=>Bool.rec (motive:=fun _=>β) (k (.bool false)) (k (.bool true)) b
 | .int q n=>U7 n fun n=>k (.int q n)
 | .ptr b o=>dP b fun b=>dP o fun o=>k (.ptr b o)
 | .slice b o n c=>dP b fun b=>dP o fun o=>dP n fun n=>dP c fun c=>k (.slice b o n c)
 | .own b n=>dP b fun b=>dP n fun n=>k (.own b n)
 |v=>k v
inductive D where
 |int (k:IntKind)|bool|string|slice (el:TypeId)|array (n:Nat) (el:TypeId)|lV (fs:List (Nat×TypeId×Nat))|map (k v:TypeId)|ptr (el:TypeId)|func|iface|other
inductive Sc where
 |i|b|s
structure TI where
 size:Nat
 bytes:Nat
 zero:T
 d:D
 fl:List Sc
noncomputable def toT:Value->Option T
 | .bool b=>some (.bool b)
 | .int k n=>some (.int k n)
 | .string s=>some (.str s.data.toList)
 | .pointer none=>some .rZ
 | .slice none 0 0=>some .dh
 | .map none=>some .pY
 | .nilFunc=>some .nC
 | .nilIface=>some .iM
 | .func (.func g) a b=>match a.toList,b.toList with|[],[]=>some (.func (.func g) [] [])|_,_=>none
 |_=>none
noncomputable def Vf:Value->Option T
 | .agg cs=>((cs.toList).mapM toT).map .agg
 | .tuple cs=>((cs.toList).mapM toT).map .tup
 |v=>toT v
noncomputable def mkD (P:Program)(t:TypeId):D:=
 match P.underlying t with
 |some (.int k)=> .int k
 |some .bool=> .bool
 |some .string=> .string
 |some (.slice el)=> .slice el
 |some (.array n el)=> .array n el
 |some (.struct fs)=> .lV (fs.toList.map fun f=>(f.offset,f.type,szT P f.type))
 |some (.map k v)=> .map k v
 |some (.pointer el)=> .ptr el
 |some (.func _ _ _)=> .func
 |some (.interface _)=> .iface
 |_=> .other
noncomputable def JD (P:Program)(t:TypeId):TypeDesc->Bool| .struct _=>jh P t|_=>true
noncomputable def Wh (P:Program)(t:TypeId):Option TI:=
 match P.info? t,P.underlying t with
 |some i,some d=>match i.zero.bind Vf,JD P t d with
  |some z,true=>some ⟨i.size,i.bytes,z,mkD P t,[]⟩
  |_,_=>none
 |_,_=>none
noncomputable def scT (P:Program)(u:TypeId):Option Sc:=match P.underlying u with|some (.int _)=>some .i|some .bool=>some .b|some .string=>some .s|_=>none
noncomputable def flE (P:Program)(g:TypeId->Option (List Sc)):List Field->Nat->Option (List Sc)
 |[],_=>some []
 |f::fs,i=>match f.name != "_" &&aX f.offset i,g f.type with
  |true,some c=>(match flE P g fs (i+c.length)with|some r=>some (c++r)|none=>none)
  |_,_=>none
noncomputable def flG (P:Program):Nat->TypeId->Option (List Sc)
 |0,_=>none
 |k+1,u=>match scT P u with
  |some c=>some [c]
  |none=>match P.stoodInHeld u with
   |true=>none
   |false=>match P.underlying u with
    |some (.struct fs)=>(match flE P (flG P k) fs.toList 0 with|some r=>(match aX (szT P u) r.length with|true=>some r|false=>none)|none=>none)
    |some (.array n el)=>(match flG P k el with|some r=>(match aX (szT P el) r.length&&aX (szT P u) (n*r.length)with|true=>some (List.replicate n r).flatten|false=>none)|none=>none)
    |_=>none
noncomputable def flT (P:Program)(t:TypeId):List Sc:=
 match P.eqGuardType P.depth t,scT P t,flG P 4 t with
 |false,none,some r=>r
 |_,_,_=>[]
structure FI where
 body:Code
 nt:Nat
 res:List ResultVar
noncomputable def NA (P:Program)(f:Nat):Option FI:=
 match P.funcs[f]? with
 |some fn=>match fn.body with
  |some c=>match qA P f with|true=>some ⟨c,fn.ntmps,fn.results.toList⟩|false=>none
  |none=>none
 |none=>none
inductive X where
 |no
 |mnz (el:TypeId)
 |cnt
 |idx
 |cpy (ct:TypeId)
 |tru
structure Pr where
 ty:Nat->Option TI
 fn:Nat->Option FI
 lib:Nat->Nat
 ext:Nat->X
 mem:Nat->Option (List T->S->Option (T×S))
noncomputable def yF:Int->Int->Bool
 | .ofNat a,.ofNat b=>aX a b
 | .negSucc a,.negSucc b=>aX a b
 |_,_=>false
noncomputable def ltI:Int->Int->Bool
 | .ofNat a,.ofNat b=>kV a b
 | .negSucc a,.negSucc b=>kV b a
 | .negSucc _,.ofNat _=>true
 | .ofNat _,.negSucc _=>false
noncomputable def leI (a b:Int):Bool:= !ltI b a
noncomputable def inK:IntKind->Int->Bool
 | .i64,.ofNat a=>bn a 9223372036854775807
 | .i64,.negSucc a=>bn a 9223372036854775807
 | .u8,.ofNat a=>bn a 255
 | .i32,.ofNat a=>bn a 2147483647
 | .i32,.negSucc a=>bn a 2147483647
 | .u64,.ofNat a=>bn a 18446744073709551615
 | .u32,.ofNat a=>bn a 4294967295
 |_,_=>false
noncomputable def Ir:IntKind->IntKind->Bool
 | .i8,.i8=>true| .i16,.i16=>true| .i32,.i32=>true| .i64,.i64=>true| .u8,.u8=>true| .u16,.u16=>true| .u32,.u32=>true| .u64,.u64=>true|_,_=>false
noncomputable def uR:List UInt8->List UInt8->Bool
 |[],[]=>true
 |a::s,b::t=>match aX a.toNat b.toNat with|true=>uR s t|false=>false
 |_,_=>false
noncomputable def wY (k:IntKind)(n:Int):Option T:=ite (inK k n) (some (.int k n)) none
noncomputable def Sq (op:BinOp)(k:IntKind)(x y:Int):Option T:=
 match op with
 | .add=>wY k (Int.add x y)
 | .sub=>wY k (Int.sub x y)
 | .mul=>wY k (Int.mul x y)
 | .quo=>match yF y 0 with|true=>none|false=>wY k (x.tdiv y)
 | .rem=>match yF y 0 with|true=>none|false=>some (.int k (x.tmod y))
 | .eql=>some (.bool (yF x y))
 | .neq=>some (.bool (!yF x y))
 | .lss=>some (.bool (ltI x y))
 | .leq=>some (.bool (leI x y))
 | .gtr=>some (.bool (ltI y x))
 | .geq=>some (.bool (leI y x))
 | .and=>some (.int k (nP .and k x y))
 | .or=>some (.int k (nP .or k x y))
 | .xor=>some (.int k (nP .xor k x y))
 | .andNot=>some (.int k (nP .andNot k x y))
 |_=>none
noncomputable def N7 (k:IntKind)(m r lo hi:Int):Option T:=match wY k lo,wY k hi with
 |some _,some _=>some (.res k m (r % m) lo hi)
 |_,_=>none
noncomputable def TZ (op:BinOp)(k:IntKind)(m r lo hi b:Int):Option T:=
 match op with
 | .add=>N7 k m (r+b) (lo+b) (hi+b)
 | .sub=>N7 k m (r+ -b) (lo+ -b) (hi+ -b)
 | .rem=>(match leI 0 lo&&(ltI 0 b&&yF (m % b) 0)with|true=>some (.int k (r % b))|false=>none)
 | .lss=>(match ltI hi b with|true=>some (.bool true)|false=>(match leI b lo with|true=>some (.bool false)|false=>none))
 | .geq=>(match ltI hi b with|true=>some (.bool false)|false=>(match leI b lo with|true=>some (.bool true)|false=>none))
 | .gtr=>(match ltI b lo with|true=>some (.bool true)|false=>(match leI hi b with|true=>some (.bool false)|false=>none))
 | .leq=>(match ltI b lo with|true=>some (.bool false)|false=>(match leI hi b with|true=>some (.bool true)|false=>none))
 |_=>none
noncomputable def WC (op:BinOp)(k:IntKind)(x y:Int):Option T:=
 match leI 0 y,leI y k.bits with
 |true,true=>match op with
  | .shl=>wY k (x*2^y.toNat)
  | .shr=>some (.int k (x/2^y.toNat))
  |_=>none
 |_,_=>none
noncomputable def ry:Sc->T->T->Option Bool
 | .i,.int k a,.int j b=>match Ir k j with|true=>some (yF a b)|false=>none
 | .b,.bool a,.bool b=>some (a==b)
 | .s,.str a,.str b=>some (uR a b)
 |_,_,_=>none
noncomputable def gZ:List Sc->List T->List T->Option Bool
 |[],[],[]=>some true
 |c::cs,a::s,b::t=>match ry c a b with
  |some true=>gZ cs s t
  |some false=>some false
  |none=>none
 |_,_,_=>none
noncomputable def mG (ti:TI)(x y:T):Option Bool:=
 match x,y with
 | .agg a,.agg b=>(match ti.fl with|[]=>none|c::fl=>gZ (c::fl) a b)
 |_,_=>none
noncomputable def fV (ti:TI)(x y:T):Option Bool:=
 match ti.d with
 | .int _=>ry .i x y
 | .bool=>ry .b x y
 | .string=>ry .s x y
 | .lV _=>mG ti x y
 | .array _ _=>mG ti x y
 |_=>none
noncomputable def CQ:T->Option Bool
 | .dh=>some true| .slice .. =>some false| .own .. =>some false| .sub .. =>some false| .empty=>some false|_=>none
noncomputable def RY (ti:TI)(x y:T):Option Bool:=
 match ti.d with
 | .bool=>(match x,y with| .bool a,.bool b=>some (a==b)|_,_=>none)
 | .slice _=>(match y with| .dh=>CQ x|_=>none)
 | .map _ _=>(match x,y with| .pY,.pY=>some true| .map _,.pY=>some false|_,_=>none)
 | .ptr _=>(match x,y with| .rZ,.rZ=>some true| .ptr _ _,.rZ=>some false|_,_=>none)
 | .func=>(match x,y with| .nC,.nC=>some true| .func ..,.nC=>some false|_,_=>none)
 | .iface=>(match x,y with| .iM,.iM=>some true|_,_=>none)
 | .lV _=>mG ti x y
 | .array _ _=>mG ti x y
 |_=>none
noncomputable def ZF (op:BinOp)(o:Option Bool):Option T:=
 match op with
 | .eql=>(match o with|some b=>some (.bool b)|none=>none)
 | .neq=>(match o with|some b=>some (.bool (!b))|none=>none)
 |_=>none
noncomputable def JJ (p:Pr)(op:BinOp)(t:TypeId)(x y:T):Option T:=
 match x,y with
 | .int k a,.int j b=>match op with
   | .shl=>WC .shl k a b
   | .shr=>WC .shr k a b
   |op=>match Ir k j with|true=>Sq op k a b|false=>none
 | .str s,.str t=>match op with
   | .add=>match bn (s.length+t.length) 1000000000 with|true=>some (.str (s++t))|false=>none
   | .eql=>some (.bool (uR s t))
   | .neq=>some (.bool (!uR s t))
   |_=>none
 | .res k m r lo hi,.int j b=>(match Ir k j with|true=>TZ op k m r lo hi b|false=>none)
 |x,y=>match p.ty t with
  |some ti=>ZF op (RY ti x y)
  |none=>none
noncomputable def dV:T->List T
 | .agg cs=>cs
 |v=>[v]
noncomputable def jE:T->Bool| .any=>false|_=>true
noncomputable def yG:D->Bool| .lV _=>true| .array _ _=>true|_=>false
noncomputable def rowAt (s:S)(b:Nat):Option (List T):=match s.at b with|some (.row cs _ _)=>some cs|some (.ro cs _)=>some cs|_=>none
noncomputable def loadT (p:Pr)(s:S)(t:TypeId)(x:T):Option T:=
 match x with
 | .ptr b o=>match p.ty t,rowAt s b with
   |some ti,some cs=>match yG ti.d with
    |true=>match bn (o+ti.size) cs.length with|true=>some (.agg ((cs.drop o).take ti.size))|false=>none
    |false=>cs[o]?
   |_,_=>none
 |_=>none
noncomputable def spl (c:List T)(off:Nat)(vs:List T):List T:=c.take off++vs++c.drop (off+vs.length)
noncomputable def vo:T->Bool| .agg _=>false| .tup _=>false| .any=>false|_=>true
noncomputable def dz (a b:Nat):Nat:=match bn a b with|true=>a|false=>b
noncomputable def bG (s:S)(b:Nat)(o:Option VO)(nx low:Nat):S:=ite (bn b 16383) (En.eU (Pa.of 14 b) o s.V fun v=>⟨v,nx,low⟩) ⟨s.V,nx,low⟩
noncomputable def gI (s:S)(b:Nat)(o:VO):S:=dP (dz s.low b) fun lo=>bG s b (some o) s.nx lo
noncomputable def fM (s:S)(o:VO):S:=dP s.low fun lo=>dP (cK s.nx) fun n=>bG s s.nx (some o) n lo
noncomputable def dX (s:S)(b:Nat)(o:VO):S:=bG s b (some o) s.nx s.low
noncomputable def storeT (p:Pr)(s:S)(t:TypeId)(x v:T):Option S:=
 match x with
 | .ptr b o=>match p.ty t,s.at b with
   |some ti,some (.row cs ct tl)=>
    let vs:=dV v
    match aX vs.length ti.size&&bn (o+vs.length) cs.length&&vs.all vo with
    |true=>some (gI s b (.row (spl cs o vs) ct tl))
    |false=>none
   |_,_=>none
 |_=>none
noncomputable def mV (fs:List (Nat×TypeId×Nat))(i:Nat):Option (Nat×TypeId×Nat):=fs[i]?
noncomputable def fP:T->Option (Nat×Nat×Nat)
 | .slice b o len _=>some (b,o,len)
 | .own b len=>some (b,0,len)
 | .sub b o len=>some (b,o,len)
 |_=>none
noncomputable def inR (n:Int)(len:Nat):Option Nat:=match n with| .ofNat a=>(match kV a len with|true=>some a|false=>none)| .negSucc _=>none
noncomputable def leR (n:Int)(len:Nat):Option Nat:=match n with| .ofNat a=>(match bn a len with|true=>some a|false=>none)| .negSucc _=>none
noncomputable def JN (p:Pr)(t:TypeId)(x i:T):Option T:=
 match i with
 | .int _ n=>match p.ty t with
   |some ti=>match ti.d with
    | .slice el=>match p.ty el,fP x with
      |some ei,some (b,o,len)=>match inR n len with|some j=>some (.ptr b (o+j*ei.size))|none=>none
      |_,_=>none
    | .array len el=>match p.ty el,x with
      |some ei,.ptr b o=>match inR n len with|some j=>some (.ptr b (o+j*ei.size))|none=>none
      |_,_=>none
    |_=>none
   |none=>none
 |_=>none
noncomputable def vH (pl:Nat->Option (Nat×Nat)):List T->List (Nat×T)->Option (List T)
 |cells,[]=>some cells
 |cells,(i,v)::rest=>match pl i with
  |some (off,size)=>match jE v&&aX (dV v).length size&&bn (off+size) cells.length with
   |true=>vH pl (spl cells off (dV v)) rest
   |false=>none
  |none=>none
noncomputable def Rz (p:Pr)(t:TypeId)(parts:List (Nat×T)):Option T:=
 match p.ty t with
 |some ti=>match jE ti.zero with
  |false=>none
  |true=>match ti.d with
   | .lV fs=>(vH (fun i=>(mV fs i).map fun(o,_,s)=>(o,s)) (dV ti.zero) parts).map .agg
   | .array _ el=>match p.ty el with
     |some ei=>(vH (fun i=>some (i*ei.size,ei.size)) (dV ti.zero) parts).map .agg
     |none=>none
   |_=>none
 |none=>none
noncomputable def rep (n:Nat)(l:List T):List T:=match n with|0=>[]|n+1=>l++rep n l
noncomputable def Eu (p:Pr)(s:S)(t:TypeId)(n:Nat)(parts:List (Nat×T)):Option (T×S):=
 match p.ty t with
 |some ti=>match ti.d with
  | .slice el=>match p.ty el with
    |some ei=>match jE ei.zero&&aX (dV ei.zero).length ei.size&&bn 1 ei.size&&bn (n*ei.size) 16777216 with
     |true=>match vH (fun i=>some (i*ei.size,ei.size)) (rep n (dV ei.zero)) parts with
      |some cs=>some (.slice s.nx 0 n n,fM s (.row cs el false))
      |none=>none
     |false=>none
    |none=>none
  |_=>none
 |none=>none
noncomputable def bytesOf:List T->Option (List UInt8)
 |[]=>some []
 | .int .u8 (.ofNat n)::r=>match kV n 256,bytesOf r with|true,some s=>some (UInt8.ofNat n::s)|_,_=>none
 |_=>none
noncomputable def kT (s:List UInt8):List T:=s.map fun b=> .int .u8 (.ofNat b.toNat)
noncomputable def gF (p:Pr)(s:S)(el:TypeId)(x:T):Option (List T):=
 match x with
 | .dh=>some []
 | .empty=>some []
 |x=>match p.ty el,fP x with
  |some ei,some (b,o,len)=>match rowAt s b with
   |some cs=>match bn (o+len*ei.size) cs.length with|true=>some ((cs.drop o).take (len*ei.size))|false=>none
   |none=>none
  |_,_=>none
noncomputable def sliceLen:T->Option Nat
 | .dh=>some 0
 | .empty=>some 0
 | .slice _ _ n _=>some n
 | .own _ n=>some n
 | .sub _ _ n=>some n
 |_=>none
noncomputable def We (p:Pr)(s:S)(el:TypeId)(xt:Option TypeId)(y:T):Option (List T×Nat):=
 match xt with
 |some xt=>match p.ty xt with
  |some xi=>match xi.d with
   | .string=>(match y with| .str t=>some (kT t,t.length)|_=>none)
   | .slice _=>(match gF p s el y,sliceLen y with|some c,some n=>some (c,n)|_,_=>none)
   |_=>none
  |none=>none
 |none=>none
noncomputable def ownRow (s:S)(el:TypeId)(cs:List T)(n:Nat):Option (T×S):=some (.own s.nx n,fM s (.row cs el true))
noncomputable def Ud (s:S)(el:TypeId)(size:Nat)(b len:Nat)(old news:List T)(m:Nat):Option (T×S):=
 match s.at b with
 |some (.row cs ct true)=>match aX ct el with
  |true=>match bn ((len+m)*size) cs.length with
   |true=>some (.own b (len+m),gI s b (.row (spl cs (len*size) news) ct true))
   |false=>ownRow (bG s b none s.nx (dz s.low b)) el (old++news) (len+m)
  |false=>none
 |_=>none
noncomputable def XV (s:S)(b o len cap size:Nat)(news:List T)(m:Nat):Option (T×S):=
 match s.at b with
 |some (.row cs ct tl)=>match bn (o+(len+m)*size) cs.length with
  |true=>some (.slice b o (len+m) cap,gI s b (.row (spl cs (o+len*size) news) ct tl))
  |false=>none
 |_=>none
noncomputable def qW (p:Pr)(s:S)(el:TypeId)(x:T)(news:List T)(m:Nat):Option (T×S):=
 match p.ty el,gF p s el x,sliceLen x with
 |some ei,some old,some len=>
  match bn 1 ei.size&&bn 1 ei.bytes&&aX news.length (m*ei.size)&&bn ((len+m)*ei.bytes) 1000000&&news.all vo&&(jE ei.zero&&aX (dV ei.zero).length ei.size)with
  |true=>match x with
   | .dh=>(match m with
     |0=>some (.dh,s)
     |m+1=>ownRow s el news (m+1))
   | .slice b o len cap=>(match bn (len+m) cap with
     |true=>XV s b o len cap ei.size news m
     |false=>ownRow s el (old++news) (len+m))
   | .own b len=>Ud s el ei.size b len old news m
   |_=>none
  |false=>none
 |_,_,_=>none
noncomputable def XJ (s:S)(x:T):Option (Nat×Nat×List (List T)×TypeId):=
 match x with
 | .own b len=>(match s.at b with|some (.bag els ct)=>some (b,len,els,ct)|_=>none)
 |_=>none
noncomputable def BN (p:Pr)(s:S)(el:TypeId)(x:T)(news:List T)(m:Nat):Option (T×S):=
 match XJ s x with
 |some (b,len,els,ct)=>(match p.ty el with
  |some ei=>(match aX ct el&&(aX m 1&&(aX els.length len&&els.all fun e=>aX e.length ei.size))with
   |true=>(match bn 1 ei.size&&bn 1 ei.bytes&&aX news.length (m*ei.size)&&bn ((len+m)*ei.bytes) 1000000&&news.all vo&&(jE ei.zero&&aX (dV ei.zero).length ei.size)with
    |true=>some (.own s.nx (len+m),fM (bG s b none s.nx (dz s.low b)) (.bag (els++[news]) el))
    |false=>none)
   |false=>none)
  |none=>none)
 |none=>none
abbrev Ent:=T×T×Nat
noncomputable def iT (ki:TI)(k:T):List Ent->Option (Option Nat)
 |[]=>some none
 |e::es=>match fV ki k e.1 with
  |some true=>some (some 0)
  |some false=>(match iT ki k es with|some (some j)=>some (some (cK j))|some none=>some none|none=>none)
  |none=>none
noncomputable def wW (f:Ent->Ent):List Ent->Nat->List Ent
 |[],_=>[]
 |e::es,0=>f e::es
 |e::es,n+1=>e::wW f es n
noncomputable def KM:List Ent->Nat->List Ent
 |[],_=>[]
 |_::es,0=>es
 |e::es,n+1=>e::KM es n
noncomputable def EH (p:Pr)(t:TypeId):Option (TI×TI):=
 match p.ty t with
 |some ti=>match ti.d with
  | .map kt vt=>(match p.ty kt,p.ty vt with|some ki,some vi=>some (ki,vi)|_,_=>none)
  |_=>none
 |none=>none
noncomputable def MZ (s:S):T->Option (List Ent)
 | .pY=>some []
 | .map b=>match s.at b with|some (.map es _)=>some es|_=>none
 |_=>none
noncomputable def G8 (p:Pr)(s:S)(t:TypeId)(x k:T)(ok:Bool):Option T:=
 match EH p t,MZ s x with
 |some (ki,vi),some es=>match fV ki k k with
  |some true=>match iT ki k es with
   |some (some j)=>(match es[j]? with|some e=>some (match ok with|true=> .tup [e.2.1,.bool true]|false=>e.2.1)|none=>none)
   |some none=>some (match ok with|true=> .tup [vi.zero,.bool false]|false=>vi.zero)
   |none=>none
  |_=>none
 |_,_=>none
noncomputable def SY (p:Pr)(s:S)(t:TypeId)(x k v:T):Option S:=
 match EH p t,x with
 |some (ki,_),.map b=>match s.at b with
  |some (.map es c)=>match fV ki k k with
   |some true=>match iT ki k es with
    |some (some j)=>some (gI s b (.map (wW (fun e=>(k,v,e.2.2)) es j) c))
    |some none=>some (gI s b (.map (es++[(k,v,c)]) (c+1)))
    |none=>none
   |_=>none
  |_=>none
 |_,_=>none
noncomputable def Ef (p:Pr)(s:S)(t:TypeId)(x k:T):Option (T×S):=
 match EH p t,x with
 |some (ki,vi),.map b=>match s.at b with
  |some (.map es c)=>match fV ki k k with
   |some true=>match iT ki k es with
    |some (some j)=>(match es[j]? with|some e=>some (.tup [e.2.1,.int .i64 (.ofNat e.2.2)],gI s b (.map (wW (fun e=>(k,e.2.1,e.2.2)) es j) c))|none=>none)
    |some none=>some (.tup [vi.zero,.int .i64 (.ofNat c)],gI s b (.map (es++[(k,vi.zero,c)]) (c+1)))
    |none=>none
   |_=>none
  |_=>none
 |_,_=>none
noncomputable def Jm (w:Nat):List Ent->Option Nat
 |[]=>none
 |e::es=>match aX w e.2.2 with|true=>some 0|false=>(match Jm w es with|some j=>some (cK j)|none=>none)
noncomputable def Ow (s:S)(x w v:T):Option S:=
 match x,w with
 | .map b,.int _ (.ofNat w)=>(match s.at b with
   |some (.map es c)=>(match Jm w es with|some j=>some (gI s b (.map (wW (fun e=>(e.1,v,e.2.2)) es j) c))|none=>none)
   |_=>none)
 |_,_=>none
noncomputable def Mt (v:Option T)(d:Nat)(hi:Nat):Option Nat:=
 match v with
 |none=>leR (.ofNat d) hi
 |some (.int _ n)=>leR n hi
 |_=>none
noncomputable def nN (lo hi mx:Option T)(len top:Nat):Option (Nat×Nat×Nat):=
 match mx with
 |none=>match Mt hi len top with
  |some r=>match Mt lo 0 r with
   |some l=>some (l,r,top)
   |none=>none
  |none=>none
 |some m=>match hi with
  |none=>none
  |some hi=>match Mt (some m) 0 top with
   |some m=>match Mt (some hi) 0 m with
    |some r=>match Mt lo 0 r with
     |some l=>some (l,r,m)
     |none=>none
    |none=>none
   |none=>none
noncomputable def QJ (b o sz l r m:Nat):T:= .slice b (match aX m l with|true=>o|false=>o+l*sz) (r-l) (m-l)
noncomputable def V8 (b o sz l r:Nat):T:=match kV l r with|true=> .sub b (o+l*sz) (r-l)|false=> .empty
noncomputable def Uk (s:List UInt8)(lo hi mx:Option T):Option T:=
 match nN lo hi mx s.length s.length,mx with
 |some (l,r,_),none=>some (.str ((s.drop l).take (r-l)))
 |_,_=>none
noncomputable def Ld (s:S)(el:TypeId)(sz b len:Nat):Nat:=
 match s.at b with
 |some (.row cs ct true)=>(match aX ct el&&bn 1 sz with|true=>KN cs.length sz|false=>len)
 |_=>len
noncomputable def ZN (s:S)(el:TypeId)(sz:Nat)(x:T)(lo hi mx:Option T):Option T:=
 match x with
 | .dh=>match nN lo hi mx 0 0 with|some _=>some .dh|none=>none
 | .empty=>match nN lo hi mx 0 0,mx with|some _,none=>some .empty|_,_=>none
 | .slice b o len c=>match nN lo hi mx len c with|some (l,r,m)=>some (QJ b o sz l r m)|none=>none
 | .own b len=>match nN lo hi mx len (Ld s el sz b len)with
   |some (l,r,m)=>match mx with
    |none=>(match l with|0=>some (.own b r)|l+1=>some (V8 b 0 sz (l+1) r))
    |some _=>some (QJ b 0 sz l r m)
   |none=>none
 | .sub b o len=>match nN lo hi mx len len with
   |some (l,r,m)=>match mx with
    |none=>(match l with|0=>some (.sub b o r)|l+1=>some (V8 b o sz (l+1) r))
    |some _=>some (QJ b o sz l r m)
   |none=>none
 |_=>none
noncomputable def TK (sz n:Nat)(x:T)(lo hi mx:Option T):Option T:=
 match x,mx with
 | .ptr b o,none=>match nN lo hi none n n with|some (l,r,m)=>some (QJ b o sz l r m)|none=>none
 |_,_=>none
noncomputable def Hm (p:Pr)(s:S)(t:TypeId)(x:T)(lo hi mx:Option T):Option T:=
 match p.ty t with
 |some ti=>match ti.d with
  | .string=>(match x with| .str s=>Uk s lo hi mx|_=>none)
  | .slice el=>match p.ty el with|some ei=>ZN s el ei.size x lo hi mx|none=>none
  | .array n el=>match p.ty el with|some ei=>TK ei.size n x lo hi mx|none=>none
  |_=>none
 |none=>none
noncomputable def TV (s:List UInt8)(pos:Nat):Option (Nat×Nat):=match s[pos]? with|some b=>(match kV b.toNat 128 with|true=>some (b.toNat,1)|false=>none)|none=>none
noncomputable def Dl (s:S)(x:T)(str:Bool):Option (T×S):=
 match x with
 | .ptr r 0=>match s.at r,str with
   |some (.pO t pos),true=>match kV pos t.length with
    |true=>match TV t pos with
     |some (c,w)=>some (.tup [.bool true,.int .i64 (.ofNat pos),.int .i32 (.ofNat c)],gI s r (.pO t (pos+w)))
     |none=>none
    |false=>some (.tup [.bool false],s)
   |some (.iU m since seen last),false=>match s.at m with
    |some (.map es clock)=>match bn since last&&es.all (fun e=>kV e.2.2 since)with
     |true=>(match es.filter (fun e=> !(seen.any fun b=>aX b e.2.2))with
      |[]=>some (.tup [.bool false],s)
      |[e]=>some (.tup [.bool true,e.1,e.2.1],gI s r (.iU m since (seen++[e.2.2]) clock))
      |_=>none)
     |false=>none
    |_=>none
   |_,_=>none
 |_=>none
noncomputable def LD (s:S)(x:T):Option T:=
 match x with
 | .ptr r 0=>match s.at r with
   |some (.pick mp)=>(match s.at mp with|some (.tZ es j false)=>(match es[j]? with|some e=>some (.tup [e.1,e.2.1])|none=>none)|_=>none)
   |some (.iB mp _ w last)=>(match s.at mp with
    |some (.map es clock)=>(match aX clock last with
     |true=>(match es.find? fun e=>aX e.2.2 w with|some e=>some (.tup [e.1,e.2.1])|none=>none)
     |false=>none)
    |_=>none)
   |some (.iG mp since seen last)=>(match s.at mp,seen.getLast? with
    |some (.map es clock),some b=>(match aX clock last&&(kV b since&&bn since last)with
     |true=>(match es.find? fun e=>aX e.2.2 b with|some e=>some (.tup [e.1,e.2.1])|none=>none)
     |false=>none)
    |_,_=>none)
   |some (.iU mp _ seen last)=>(match s.at mp,seen.getLast? with
    |some (.map es clock),some b=>(match aX clock last with
     |true=>(match es.find? fun e=>aX e.2.2 b with|some e=>some (.tup [e.1,e.2.1])|none=>none)
     |false=>none)
    |_,_=>none)
   |_=>none
 |_=>none
noncomputable def opd (m:Fm)(e:E):Operand->Option T
 | .tmp t=>some (bu m e t)
 | .const v=>Vf v
 | .func f=>some (.func (.func f) [] [])
 | .global _=>none
noncomputable def qE (m:Fm)(e:E):List Operand->Option (List T)
 |[]=>some []
 |x::xs=>match opd m e x,qE m e xs with|some a,some r=>some (a::r)|_,_=>none
noncomputable def oZ (m:Fm)(e:E):List (Nat×Operand)->Option (List (Nat×T))
 |[]=>some []
 |(i,x)::xs=>match opd m e x,oZ m e xs with|some a,some r=>some ((i,a)::r)|_,_=>none
noncomputable def wL (m:Fm)(e:E):Option Operand->Option (Option T)
 |none=>some none
 |some x=>match opd m e x with|some a=>some (some a)|none=>none
noncomputable def rW (p:Pr)(t:Option TypeId):Option TypeId:=
 match t with
 |some t=>match p.ty t with|some ti=>(match ti.d with| .slice el=>some el|_=>none)|none=>none
 |none=>none
noncomputable def descOf (p:Pr)(t:Option TypeId):Option D:=match t with|some t=>(match p.ty t with|some ti=>some ti.d|none=>none)|none=>none
noncomputable def Te (s:S):T->Option Nat
 | .pY=>some 0
 | .map b=>match s.at b with|some (.map es _)=>some es.length|_=>none
 |_=>none
noncomputable def Om (s:S)(ki:TI)(b:Nat)(k:T):Option (T×S):=
 match s.at b with
 |some (.map es c)=>(match fV ki k k,iT ki k es with
  |some true,some (some j)=>some (.tup [],gI s b (.map (KM es j) c))
  |some true,some none=>some (.tup [],gI s b (.map es c))
  |_,_=>none)
 |some (.tZ es j false)=>(match fV ki k k,iT ki k es with
  |some true,some (some i)=>(match aX i j with|true=>some (.tup [],dX s b (.tZ es j true))|false=>none)
  |_,_=>none)
 |_=>none
noncomputable def ZW (p:Pr)(s:S)(ats:List TypeId)(x:T):Option (T×S):=
 match descOf p ats[0]? with
 |some .string=>(match x with| .str t=>some (.int .i64 (.ofNat t.length),s)|_=>none)
 |some (.slice _)=>(match sliceLen x with|some n=>some (.int .i64 (.ofNat n),s)|none=>none)
 |some (.map _ _)=>(match Te s x with|some n=>some (.int .i64 (.ofNat n),s)|none=>none)
 |_=>none
noncomputable def Yp (s:S)(x y:T):Option (T×S):=
 match x,y with
 | .int k x,.int j y=>(match Ir k j with|true=>some (.int k (match ltI y x with|true=>y|false=>x),s)|false=>none)
 |_,_=>none
noncomputable def Z8 (s:S)(x y:T):Option (T×S):=
 match x,y with
 | .int k x,.int j y=>(match Ir k j with|true=>some (.int k (match ltI x y with|true=>y|false=>x),s)|false=>none)
 |_,_=>none
noncomputable def SB (p:Pr)(t:Option TypeId):Bool:=match descOf p t with|some (.int _)=>true|_=>false
noncomputable def Yy (p:Pr)(s:S)(el:TypeId)(x y:T):Option (T×S):=
 match x,y,p.ty el with
 | .dh,.int .i64 (.ofNat (m+1)),some ei=>(match bn 1 ei.size&&bn 1 ei.bytes&&bn ((m+1)*ei.bytes) 1000000&&(jE ei.zero&&aX (dV ei.zero).length ei.size)with
   |true=>ownRow s el (rep (m+1) (dV ei.zero)) (m+1)
   |false=>none)
 |_,_,_=>none
noncomputable def YW (p:Pr)(s:S)(ats:List TypeId)(x y:T):Option (T×S):=
 match rW p ats[0]? with
 |some el=>(match SB p ats[1]? with
  |true=>Yy p s el x y
  |false=>(match We p s el ats[1]? y with|some (news,m)=>(match BN p s el x news m with|some r=>some r|none=>qW p s el x news m)|none=>none))
 |none=>none
noncomputable def TC (s:S)(b o k size m:Nat)(src:List T):Option (T×S):=
 match s.at b with
 |some (.row cs ct tl)=>match bn (o+k*size) cs.length&&(src.take (k*size)).all vo&&aX src.length (m*size)with
  |true=>some (.int .i64 (.ofNat k),gI s b (.row (spl cs o (src.take (k*size))) ct tl))
  |false=>none
 |_=>none
noncomputable def UF (p:Pr)(s:S)(ats:List TypeId)(x y:T):Option (T×S):=
 match rW p ats[0]? with
 |some el=>match p.ty el,We p s el ats[1]? y,sliceLen x with
  |some ei,some (src,m),some n=>(match fP x with
   |some (b,o,_)=>TC s b o (dz m n) ei.size m src
   |none=>match x,aX src.length (m*ei.size)with| .dh,true=>some (.int .i64 0,s)|_,_=>none)
  |_,_,_=>none
 |none=>none
noncomputable def PG (s:S)(b o n:Nat)(ei:TI):Option (T×S):=
 match s.at b with
 |some (.row cs ct tl)=>match bn (o+n*ei.size) cs.length&&jE ei.zero&&(dV ei.zero).all vo&&aX (dV ei.zero).length ei.size with
  |true=>some (.tup [],gI s b (.row (spl cs o (rep n (dV ei.zero))) ct tl))
  |false=>none
 |_=>none
noncomputable def ND (p:Pr)(s:S)(ats:List TypeId)(x:T):Option (T×S):=
 match descOf p ats[0]? with
 |some (.map _ _)=>(match x with
  | .map b=>(match s.at b with|some (.map _ c)=>some (.tup [],gI s b (.map [] c))|_=>none)
  | .pY=>some (.tup [],s)
  |_=>none)
 |some (.slice el)=>(match x with
  | .dh=>some (.tup [],s)
  |x=>(match fP x,p.ty el with|some (b,o,n),some ei=>PG s b o n ei|_,_=>none))
 |_=>none
noncomputable def Yt (p:Pr)(s:S)(ats:List TypeId)(x k:T):Option (T×S):=
 match ats[0]? with
 |some t=>(match EH p t,x with
  |some (ki,_),.map b=>Om s ki b k
  |_,_=>none)
 |none=>none
noncomputable def ZQ (p:Pr)(s:S)(ats:List TypeId)(x:T):Option (T×S):=
 match descOf p ats[0]? with
 |some (.slice _)=>(match x with| .dh=>some (.int .i64 0,s)| .slice _ _ _ c=>some (.int .i64 (.ofNat c),s)|_=>none)
 |_=>none
noncomputable def isByte (p:Pr)(el:TypeId):Bool:=match p.ty el with|some ei=>(match ei.d with| .int .u8=>aX ei.size 1|_=>false)|none=>false
noncomputable def NG (s:S)(x:T):Option (T×S):=
 match x with
 | .dh=>some (.rZ,s)
 | .own b (n+1)=>some (.ptr b 0,s)
 | .slice b o _ (c+1)=>some (.ptr b o,s)
 |_=>none
noncomputable def TN (p:Pr)(s:S)(pt:TypeId)(b n:Nat):Option (T×S):=
 match p.ty pt with
 |some pi=>(match pi.d with
  | .ptr el=>(match s.at b with
    |some (.row cs ct _)=>(match aX el ct&&isByte p el&&bn (n+1) cs.length&&bn n 1000000,bytesOf (cs.take (n+1))with
     |true,some l=>some (.str l,bG s b (some (.ro cs ct)) s.nx (dz s.low b))
     |_,_=>none)
    |_=>none)
  |_=>none)
 |none=>none
noncomputable def UO (p:Pr)(s:S)(ats:List TypeId)(x y:T):Option (T×S):=
 match ats,x,y with
 |[_,_],.rZ,.int .i64 (.ofNat 0)=>some (.str [],s)
 |[pt,_],.ptr b 0,.int .i64 (.ofNat (n+1))=>TN p s pt b n
 |_,_,_=>none
noncomputable def BO (p:Pr)(s:S)(b:Builtin)(ats:List TypeId)(vs:List T):Option (T×S):=
 match b,vs with
 | .len,[x]=>ZW p s ats x
 | .cap,[x]=>ZQ p s ats x
 | .clear,[x]=>ND p s ats x
 | .min,[x,y]=>Yp s x y
 | .max,[x,y]=>Z8 s x y
 | .append,[x,y]=>YW p s ats x y
 | .copy,[x,y]=>UF p s ats x y
 | .delete,[x,k]=>Yt p s ats x k
 | .unsafeSliceData,[x]=>NG s x
 | .unsafeString,[x,y]=>UO p s ats x y
 |_,_=>none
noncomputable def Ab (p:Pr)(s:S)(el:TypeId)(t:List UInt8):Option (T×S):=
 match isByte p el with
 |true=>some (.sub s.nx 0 t.length,fM s (.ro (kT t) el))
 |false=>none
noncomputable def Ah (p:Pr)(s:S)(el:TypeId)(x:T):Option (T×S):=
 match isByte p el,gF p s el x,sliceLen x with
 |true,some cs,some _=>(match bytesOf cs with|some t=>some (.str t,s)|none=>none)
 |_,_,_=>none
noncomputable def XC (p:Pr)(s:S)(src dst:TypeId)(x:T):Option (T×S):=
 match p.ty src,p.ty dst with
 |some si,some di=>match si.d,di.d,x with
  | .int _,.int k,.int _ n=>(match wY k n with|some v=>some (v,s)|none=>none)
  | .int _,.int k,.res _ m r lo hi=>(match wY k lo,wY k hi with|some _,some _=>some (.res k m r lo hi,s)|_,_=>none)
  | .string,.string,.str t=>some (.str t,s)
  | .string,.slice el,.str t=>Ab p s el t
  | .slice el,.string,x=>Ah p s el x
  | .int _,.string,.int _ (.ofNat n)=>(match kV n 128 with|true=>some (.str [UInt8.ofNat n],s)|false=>none)
  |_,_,_=>none
 |_,_=>none
noncomputable def pu (s:S)(v:Option T):Option (T×S):=bnd v fun v=>some (v,s)
noncomputable def GX (p:Pr)(m:Fm)(e:E)(s:S)(x:Operand):Option (T×S):=
 pu s (opd m e x)
noncomputable def yH (p:Pr)(m:Fm)(e:E)(s:S)(x:Operand):Option (T×S):=
 pu s (opd m e x)
noncomputable def AJ (p:Pr)(m:Fm)(e:E)(s:S)(c:Operand)(a:Operand)(b:Operand):Option (T×S):=
 match opd m e c with
  |some (.bool true)=>pu s (opd m e a)
  |some (.bool false)=>pu s (opd m e b)
  |_=>none
noncomputable def nJ (p:Pr)(m:Fm)(e:E)(s:S)(t:TypeId):Option (T×S):=
 match p.ty t with
 |some ti=>(match jE ti.zero with|true=>some (.ptr s.nx 0,fM s (.row (dV ti.zero) t false))|false=>none)
 |none=>none
noncomputable def tJ (p:Pr)(m:Fm)(e:E)(s:S)(t:TypeId)(x:Operand):Option (T×S):=
 match opd m e x with
 |some v=>(match jE v with|true=>some (.ptr s.nx 0,fM s (.row (dV v) t false))|false=>none)
 |none=>none
noncomputable def vX (p:Pr)(m:Fm)(e:E)(s:S)(t:TypeId)(parts:Array (Nat×Operand)):Option (T×S):=
 match oZ m e parts.toList with|some ps=>pu s (Rz p t ps)|none=>none
noncomputable def fO (p:Pr)(m:Fm)(e:E)(s:S)(t:TypeId)(n:Nat)(parts:Array (Nat×Operand)):Option (T×S):=
 match oZ m e parts.toList with|some ps=>Eu p s t n ps|none=>none
noncomputable def rQ (p:Pr)(m:Fm)(e:E)(s:S)(t:TypeId)(x:Operand):Option (T×S):=
 match opd m e x with|some v=>pu s (loadT p s t v)|none=>none
noncomputable def uX (p:Pr)(m:Fm)(e:E)(s:S)(t:TypeId)(a:Operand)(x:Operand):Option (T×S):=
 match opd m e a,opd m e x with
  |some a,some v=>match storeT p s t a v with|some s=>some (fB,s)|none=>none
  |_,_=>none
noncomputable def mQ (p:Pr)(m:Fm)(e:E)(s:S)(x:Operand):Option (T×S):=
 match opd m e x with|some (.ptr b o)=>some (.ptr b o,s)|_=>none
noncomputable def isC:Operand->Bool| .const _=>true|_=>false
noncomputable def zAn (b:T)(y:Operand):Bool:=match b with| .iM=>isC y|_=>true
noncomputable def uw (p:Pr)(m:Fm)(e:E)(s:S)(op:BinOp)(t:TypeId)(x:Operand)(y:Operand):Option (T×S):=
 match opd m e x,opd m e y with|some a,some b=>(match zAn b y with|true=>pu s (JJ p op t a b)|false=>none)|_,_=>none
noncomputable def GZ (p:Pr)(m:Fm)(e:E)(s:S)(x:Operand):Option (T×S):=
 match opd m e x with|some (.bool b)=>some (.bool (!b),s)|_=>none
noncomputable def Ep (p:Pr)(m:Fm)(e:E)(s:S)(x:Operand):Option (T×S):=
 match opd m e x with|some (.int k n)=>pu s (wY k (0-n))|_=>none
noncomputable def Na (p:Pr)(m:Fm)(e:E)(s:S)(u:UnOp)(x:Operand):Option (T×S):=
 match u with| .not=>GZ p m e s x| .neg=>Ep p m e s x|_=>none
noncomputable def oG (p:Pr)(m:Fm)(e:E)(s:S)(a:TypeId)(b:TypeId)(x:Operand):Option (T×S):=
 match opd m e x with|some v=>XC p s a b v|none=>none
noncomputable def mP (p:Pr)(m:Fm)(e:E)(s:S)(fn:Fn)(first:Array Operand)(caps:Array Operand):Option (T×S):=
 match fn with
 | .func g=>(match qE m e first.toList,qE m e caps.toList with|some a,some b=>some (.func (.func g) a b,s)|_,_=>none)
 |_=>none
noncomputable def jP (p:Pr)(m:Fm)(e:E)(s:S)(r:Option Operand):Option (T×S):=
 match r with|none=>some (.map s.nx,fM s (.map [] 0))|some _=>none
noncomputable def BD (p:Pr)(s:S)(el:TypeId)(n k:Nat):Option (T×S):=
 match p.ty el with
 |some ei=>match jE ei.zero&&aX (dV ei.zero).length ei.size&&bn 1 ei.size&&bn n k&&bn (k*ei.size) 1000000&&bn (k*ei.bytes) 1000000 with
  |true=>some (.slice s.nx 0 n k,fM s (.row (rep k (dV ei.zero)) el false))
  |false=>none
 |none=>none
noncomputable def gH (p:Pr)(m:Fm)(e:E)(s:S)(t:TypeId)(l:Operand)(c:Operand):Option (T×S):=
 match opd m e l,opd m e c,p.ty t with
  |some (.int _ n),some (.int _ k),some ti=>match ti.d,n,k with
   | .slice el,.ofNat n,.ofNat k=>BD p s el n k
   |_,_,_=>none
  |_,_,_=>none
noncomputable def ul (p:Pr)(m:Fm)(e:E)(s:S)(t:TypeId)(x:Operand)(lo:Option Operand)(hi:Option Operand)(mx:Option Operand):Option (T×S):=
 match opd m e x,wL m e lo,wL m e hi,wL m e mx with
  |some x,some lo,some hi,some mx=>pu s (Hm p s t x lo hi mx)
  |_,_,_,_=>none
noncomputable def kK (p:Pr)(m:Fm)(e:E)(s:S)(t:TypeId)(x:Operand)(f:Nat):Option (T×S):=
 match opd m e x,p.ty t with
 |some (.ptr b o),some ti=>(match ti.d with
  | .lV fs=>(match mV fs f with
    |some (off,ft,_)=>(match p.ty ft with
     |some fi=>(match bn 1 fi.size with|true=>some (.ptr b (o+off),s)|false=>none)
     |none=>none)
    |none=>none)
  |_=>none)
 |_,_=>none
noncomputable def vw (p:Pr)(m:Fm)(e:E)(s:S)(t:TypeId)(x:Operand)(f:Nat):Option (T×S):=
 match opd m e x,p.ty t with
  |some (.agg cs),some ti=>(match ti.d with
   | .lV fs=>match mV fs f with
     |some (off,ft,sz)=>match p.ty ft with
      |some fi=>(match yG fi.d with
       |true=>match bn (off+sz) cs.length with|true=>some (.agg ((cs.drop off).take sz),s)|false=>none
       |false=>pu s cs[off]?)
      |none=>none
     |none=>none
   |_=>none)
  |_,_=>none
noncomputable def jw (p:Pr)(m:Fm)(e:E)(s:S)(t:TypeId)(x:Operand)(i:Operand):Option (T×S):=
 match opd m e x,opd m e i with|some x,some i=>pu s (JN p t x i)|_,_=>none
noncomputable def vG (p:Pr)(m:Fm)(e:E)(s:S)(t:TypeId)(x i:Operand):Option (T×S):=
 match opd m e x,opd m e i with
 |some xv,some (.int _ n)=>(match p.ty t with
  |some ti=>(match ti.d,xv with
   | .string,.str a=>(match inR n a.length with
     |some j=>(match a[j]? with|some b=>some (.int .u8 (.ofNat b.toNat),s)|none=>none)
     |none=>none)
   | .array len el,.agg cs=>(match p.ty el,inR n len with
     |some ei,some j=>(match yG ei.d with
      |true=>(match bn (j*ei.size+ei.size) cs.length with|true=>some (.agg ((cs.drop (j*ei.size)).take ei.size),s)|false=>none)
      |false=>pu s cs[j*ei.size]?)
     |_,_=>none)
   |_,_=>none)
  |none=>none)
 |_,_=>none
noncomputable def kW (p:Pr)(m:Fm)(e:E)(s:S)(t:TypeId)(x:Operand)(k:Operand)(ok:Bool):Option (T×S):=
 match opd m e x,opd m e k with|some x,some k=>pu s (G8 p s t x k ok)|_,_=>none
noncomputable def kH (p:Pr)(m:Fm)(e:E)(s:S)(t:TypeId)(x:Operand)(k:Operand)(v:Operand):Option (T×S):=
 match opd m e x,opd m e k,opd m e v with
  |some x,some k,some v=>match SY p s t x k v with|some s=>some (fB,s)|none=>none
  |_,_,_=>none
noncomputable def vB (p:Pr)(m:Fm)(e:E)(s:S)(t:TypeId)(x:Operand):Option (T×S):=
 match opd m e x,p.ty t with
 |some xv,some ti=>(match ti.d,xv with
  | .string,.str a=>some (.ptr s.nx 0,fM s (.pO a 0))
  | .map _ _,.map b=>(match s.at b with
    |some (.map _ c)=>some (.ptr s.nx 0,fM s (.iU b c [] c))
    |_=>none)
  |_,_=>none)
 |_,_=>none
noncomputable def zh (p:Pr)(m:Fm)(e:E)(s:S)(x:Operand)(str:Bool):Option (T×S):=
 match opd m e x with|some x=>Dl s x str|none=>none
noncomputable def oQ (p:Pr)(m:Fm)(e:E)(s:S)(x:Operand)(i:Nat):Option (T×S):=
 match opd m e x with|some (.tup vs)=>pu s vs[i]? |_=>none
noncomputable def zU (p:Pr)(m:Fm)(e:E)(s:S)(c:Call):Option (T×S):=
 match c.callee with
  | .builtin b=>match qE m e c.args.toList with|some vs=>BO p s b c.argTypes.toList vs|none=>none
  |_=>none
noncomputable def nM (p:Pr)(m:Fm)(e:E)(s:S)(x:Operand):Option (T×S):=match opd m e x with|some x=>pu s (LD s x)|none=>none
noncomputable def mR (p:Pr)(m:Fm)(e:E)(s:S)(t:TypeId)(x k:Operand):Option (T×S):=match opd m e x,opd m e k with|some x,some k=>Ef p s t x k|_,_=>none
noncomputable def jf (p:Pr)(m:Fm)(e:E)(s:S)(x w v:Operand):Option (T×S):=
 match opd m e x,opd m e w,opd m e v with|some x,some w,some v=>(match Ow s x w v with|some s=>some (fB,s)|none=>none)|_,_,_=>none
noncomputable def gQ (p:Pr)(m:Fm)(o:Op)(e:E)(s:S):Option (T×S):=
 match o with
 | .move x=>GX p m e s x
 | .assign x=>yH p m e s x
 | .pick c a b=>AJ p m e s c a b
 | .alloc t=>nJ p m e s t
 | .box t x=>tJ p m e s t x
 | .build t parts=>vX p m e s t parts
 | .buildSlice t n parts=>fO p m e s t n parts
 | .load t x=>rQ p m e s t x
 | .store t a x=>uX p m e s t a x
 | .nilCheck x=>mQ p m e s x
 | .binOp op t x y _=>uw p m e s op t x y
 | .unOp u t x=>Na p m e s u x
 | .convert a b x=>oG p m e s a b x
 | .makeFunc fn first caps=>mP p m e s fn first caps
 | .makeMap _ r=>jP p m e s r
 | .makeSlice t l c=>gH p m e s t l c
 | .slice t x lo hi mx=>ul p m e s t x lo hi mx
 | .fieldAddr t x f=>kK p m e s t x f
 | .field t x f=>vw p m e s t x f
 | .indexAddr t x i=>jw p m e s t x i
 | .index t x i=>vG p m e s t x i
 | .lookup t x k ok=>kW p m e s t x k ok
 | .mapUpdate t x k v=>kH p m e s t x k v
 | .range t x=>vB p m e s t x
 | .next x str=>zh p m e s x str
 | .extract x i=>oQ p m e s x i
 | .entry x=>nM p m e s x
 | .mapEntry t x k=>mR p m e s t x k
 | .entryStore _ x w v=>jf p m e s x w v
 | .call c=>zU p m e s c
 |_=>none
inductive Res (α:Type) where
 |ok (a:α)
 |bad (why:String)
inductive Ex where
 |normal|exit (i:Nat)|goto (i:Nat)|ret
structure Out where
 x:Ex
 e:E
 d:List Nat
 s:S
abbrev fG:=T->List T->S->Res (T×S)
abbrev ae:=Fm->Option Nat->Code->E->List Nat->S->Res Out
noncomputable def MP:Op->Option (Operand×List Operand)
 | .call c=>match c.callee with| .value f=>some (f,c.args.toList)|_=>none
 |_=>none
noncomputable def Mg (m:Fm)(cf:fG)(f:Operand)(xs:List Operand)(pos:String)(e:E)(s:S):Res (T×S):=
 match opd m e f,qE m e xs with
 |some g,some vs=>(match cf g vs s with| .ok r=> .ok r| .bad w=> .bad (w++ " < " ++pos))
 |_,_=> .bad pos
noncomputable def FO (p:Pr)(m:Fm)(o:Op)(pos:String)(e:E)(s:S):Res (T×S):=
 match gQ p m o e s with
 |some r=> .ok r
 |none=> .bad pos
noncomputable def oper (p:Pr)(m:Fm)(cf:fG)(o:Op)(pos:String)(e:E)(s:S):Res (T×S):=
 match MP o with
 |some (f,xs)=>Mg m cf f xs pos e s
 |none=>FO p m o pos e s
noncomputable def wants (m:Fm)(all:List Oper)(g:Option (Nat×Bool))(e:E):Option Bool:=
 match g with
 |none=>some true
 |some (j,want)=>match fQ all j with
  |none=>some false
  |some t=>match bu m e t with
   | .bool b=>some (match b,want with|true,true=>true|false,false=>true|_,_=>false)
   | .tup []=>some false
   |_=>none
noncomputable def qP (m:Fm)(e:E)(d:Option Tmp)(v:T)(pos:String)(s:S)(k:E->S->Res (E×S)):Res (E×S):=
 match d with
 |none=>k e s
 |some t=>ite (bn (cK t) m.n) (force v fun v=>En.eU (Pa.of m.dp t) v e fun e=>k e s) (.bad pos)
noncomputable def SV (p:Pr)(m:Fm)(cf:fG)(all:List Oper)(o:Oper)(k:E->S->Res (E×S))(e:E)(s:S):Res (E×S):=
 match wants m all o.guard e with
 |some true=>match oper p m cf o.op o.pos e s with
  | .ok (v,s)=>qP m e o.dst v o.pos s k
  | .bad w=> .bad w
 |some false=>qP m e o.dst fB o.pos s k
 |none=> .bad o.pos
noncomputable def xL (p:Pr)(m:Fm)(cf:fG)(all:List Oper)(ops:List Oper):E->S->Res (E×S):=
 List.rec (motive:=fun _=>E->S->Res (E×S)) (fun e s=> .ok (e,s)) (fun o _ ih=>SV p m cf all o ih) ops
noncomputable def pg {β:Type}(m:Fm):List T->Nat->E->(E->β)->β
 |[],_,e,k=>k e
 |v::vs,i,e,k=>En.eU (Pa.of m.dp i) v e fun e=>pg m vs (cK i) e k
noncomputable def Kl (p:Pr)(m:Fm):List ResultVar->E->S->Option (List T)
 |[],_,_=>some []
 | .tmp t::rs,e,s=>match Kl p m rs e s with|some r=>some (bu m e t::r)|none=>none
 | .cell a t::rs,e,s=>match loadT p s t (bu m e a),Kl p m rs e s with|some v,some r=>some (v::r)|_,_=>none
noncomputable def Nq:List T->T|[v]=>v|vs=> .tup vs
noncomputable def qC {β:Type}(m:Fm):List Tmp->List T->E->(E->β)->β
 |q::qs,v::vs,e,k=>En.eU (Pa.of m.dp q) v e fun e=>qC m qs vs e k
 |_,_,e,k=>k e
noncomputable def Aj:List Nat->S->Option S
 |[],s=>some s
 |b::ds,s=>match s.at b with
  |some (.uf true)=>Aj ds (gI s b (.uf false))
  |_=>none
structure LO where
 st:LoopState
 pend:Option Code
 m:Fm
 tm:En T
 pa:List Tmp
 asg:Code
 bd:Code
 df:Nat
noncomputable def oJ (s:S)(l:Nat):Option LO:=match s.at l with|some (.loop st pend dp n tm pa asg bd df)=>some ⟨st,pend,⟨dp,n⟩,tm,pa,asg,bd,df⟩|_=>none
noncomputable def jb (s:S)(l:Nat)(r:LO):S:=gI s l (.loop r.st r.pend r.m.dp r.m.n r.tm r.pa r.asg r.bd r.df)
noncomputable def gV (n:Nat):Nat:=ite (bn n 16) 4 (ite (bn n 64) 6 (ite (bn n 256) 8 10))
noncomputable def EN (p:Pr)(m:Fm)(rs:List ResultVar)(e:E)(d:List Nat)(s:S):Res (T×S):=
 match Aj d s with
 |some s=>match Kl p m rs e s with
  |some vs=> .ok (Nq vs,s)
  |none=> .bad "results"
 |none=> .bad "marks"
noncomputable def qQ (p:Pr)(self:ae)(g:FuncId)(vs:List T)(s:S):Res (T×S):=
 match p.fn g with
 |some fi=>ite (bn vs.length fi.nt&&bn fi.nt 1024) (pg ⟨gV fi.nt,fi.nt⟩ vs 0 (.leaf fB) fun e=>
  match self ⟨gV fi.nt,fi.nt⟩ none fi.body e [] s with
  | .ok ⟨.normal,e,d,s⟩=>EN p ⟨gV fi.nt,fi.nt⟩ fi.res e d s
  | .ok ⟨.ret,e,d,s⟩=>EN p ⟨gV fi.nt,fi.nt⟩ fi.res e d s
  | .ok _=> .bad "leaves"
  | .bad w=> .bad w) (.bad "frame")
 |none=> .bad ("no function " ++toString g)
noncomputable def joinL (sep:List UInt8):List T->Option (List UInt8)
 |[]=>some []
 |[.str a]=>some a
 | .str a::r=>match joinL sep r with|some b=>some (a++sep++b)|none=>none
 |_=>none
noncomputable def zAV (s:S)(c:Nat)(args:List T):Option (T×S):=
 match c,args with
 |1,[x,.str sep]=>(match fP x with
  |some (b,o,n)=>(match rowAt s b with
   |some cs=>(match bn (o+n) cs.length,joinL sep ((cs.drop o).take n)with|true,some r=>some (.str r,s)|_,_=>none)
   |none=>none)
  |none=>match x with| .dh=>some (.str [],s)| .empty=>some (.str [],s)|_=>none)
 |_,_=>none
noncomputable def zb (p:Pr)(self:ae)(g:FuncId)(vs:List T)(s:S):Res (T×S):=
 match p.lib g with
 |0=>qQ p self g vs s
 |c=>match zAV s c vs with|some r=> .ok r|none=> .bad "library"
noncomputable def zQ (p:Pr)(self:ae)(g:FuncId)(vs:List T)(s:S):Res (T×S):=
 match p.mem g with
 |none=>zb p self g vs s
 |some f=>match f vs s with
  |some r=> .ok r
  |none=>zb p self g vs s
noncomputable def Ml:Ex->Option Code| .normal=>none| .ret=>some .ret| .exit i=>some (.exit i)| .goto i=>some (.goto i)
noncomputable def wM (self:ae)(l:Nat)(args:List T)(s:S):Res (T×S):=
 match oJ s l with
 |some r=>ite (aX r.pa.length args.length&&r.pa.all fun q=>bn (cK q) r.m.n) (qC r.m r.pa args r.tm fun e=>
  match self r.m (some l) r.asg e [] s with
   | .ok ⟨.normal,e,d,s⟩=>match oJ s l with
     |some r'=>match r'.st with
      | .ready=>match self r.m (some l) r.bd e d (jb s l {r' with st:= .busy})with
        | .ok ⟨x,_,_,s⟩=>match oJ s l with
          |some r=>(match Ml x with
           |none=> .ok (.bool true,jb s l {r with st:= .ready,pend:=none})
           |some j=> .ok (.bool false,jb s l {r with st:= .done,pend:=some j}))
          |none=> .bad "round's record"
        | .bad w=> .bad w
      |_=> .bad "round not ready"
     |none=> .bad "round's record"
   | .ok _=> .bad "round's head"
   | .bad w=> .bad w) (.bad "yield's arguments")
 |none=> .bad "no record"
noncomputable def zAO (p:Pr)(s:S)(x:X)(args:List T):Option (T×S):=
 match x,args with
 | .mnz el,[.int .i64 (.ofNat n)]=>(match isByte p el&&bn n 1000000 with
   |true=>some (.own s.nx n,fM s (.row (rep n [.any]) el true))
   |false=>none)
 | .cnt,[.str l,.int .u8 (.ofNat c)]=>some (.int .i64 (.ofNat (Lib.countByte l (UInt8.ofNat c))),s)
 | .idx,[.str l,.int .u8 (.ofNat c)]=>some (.int .i64 (Lib.indexByte l (UInt8.ofNat c)),s)
 | .tru,[]=>some (.bool true,s)
 | .cpy k,[.ptr b 0]=>(match s.at b with
   |some (.row [c,d] ct false)=>(match c,aX ct k with
    | .rZ,true=>some (.tup [],gI s b (.row [.ptr b 0,d] ct false))
    | .ptr b' 0,true=>(match aX b' b with|true=>some (.tup [],s)|false=>none)
    |_,_=>none)
   |_=>none)
 |_,_=>none
noncomputable def Kr (p:Pr)(s:S)(x:X)(first caps args:List T):Res (T×S):=
 match first,caps with
 |[],[]=>(match zAO p s x args with|some r=> .ok r|none=> .bad "extern")
 |_,_=> .bad "extern"
noncomputable def XM (p:Pr)(self:ae)(g:FuncId)(first caps args:List T)(s:S):Res (T×S):=
 match p.ext g with
 | .no=>zQ p self g (first++args++caps) s
 |x=>Kr p s x first caps args
noncomputable def iJ (p:Pr)(self:ae):fG:=fun f args s=>
 match f with
 | .func (.func g) first caps=>XM p self g first caps args s
 | .func (.yield l) [] []=>wM self l args s
 |_=> .bad "callee"
noncomputable def XL (p:Pr)(self:ae):fG:=fun f args s=>
 match f with
 | .func (.func g) first caps=>zQ p self g (first++args++caps) s
 |_=> .bad "callee"
noncomputable def around (ro:Option Nat)(d:List Nat)(s:S):Option (Nat×List Nat×S):=
 match ro with
 |some l=>match oJ s l with|some r=>some (r.df,d,s)|none=>none
 |none=>some (s.nx,s.nx::d,fM s (.uf true))
noncomputable def Rl (p:Pr)(self:ae)(m:Fm)(ro:Option Nat)(g:T)(ps:List Tmp)(a b:Code)(e:E)(d:List Nat)(s:S):Res Out:=
 match around ro d s with
 |some (df,d,s)=>match XL p self g [.func (.yield s.nx) [] []] (fM s (.loop .ready none m.dp m.n e ps a b df))with
  | .ok (_,s')=>match oJ s' s.nx with
    |some r=>match r.st with
     | .busy=> .bad "record busy"
     |_=>match r.pend with
      |none=> .ok ⟨.normal,e,d,jb s' s.nx {r with st:= .exhausted}⟩
      |some j=>self m ro j e d (jb s' s.nx {r with st:= .exhausted})
    |none=> .bad "no record"
  | .bad w=> .bad w
 |none=> .bad "around"
noncomputable def Da (self:ae)(m:Fm)(ro:Option Nat)(a b:Code)(e:E)(d:List Nat)(s:S):Res Out:=
 match self m ro a e d s with
 | .ok ⟨.normal,e,d,s⟩=>self m ro b e d s
 |r=>r
noncomputable def Kg (self:ae)(m:Fm)(ro:Option Nat)(x:Operand)(a b:Code)(e:E)(d:List Nat)(s:S):Res Out:=
 match opd m e x with
 |some (.bool true)=>self m ro a e d s
 |some (.bool false)=>self m ro b e d s
 |_=> .bad "cond"
noncomputable def FU (self:ae)(m:Fm)(ro:Option Nat)(i:Nat)(b:Code)(e:E)(d:List Nat)(s:S):Res Out:=
 match self m ro b e d s with
 | .ok ⟨.exit j,e,d,s⟩=>(match aX j i with|true=> .ok ⟨.normal,e,d,s⟩|false=> .ok ⟨.exit j,e,d,s⟩)
 |r=>r
noncomputable def kindOf:Op->Nat
 | .move _=>0
 | .assign _=>0
 | .pick _ _ _=>0
 | .build _ _=>0
 | .nilCheck _=>0
 | .binOp _ _ _ _ _=>0
 | .unOp _ _ _=>0
 | .convert _ _ _=>0
 | .makeFunc _ _ _=>0
 | .slice _ _ _ _ _=>0
 | .fieldAddr _ _ _=>0
 | .field _ _ _=>0
 | .indexAddr _ _ _=>0
 | .index _ _ _=>0
 | .extract _ _=>0
 | .call c=>(match c.callee with| .builtin .len=>0| .builtin .min=>0| .builtin .max=>0| .builtin .cap=>0|_=>2)
 | .load _ _=>1
 | .lookup _ _ _ _=>1
 | .entry _=>1
 | .alloc _=>3
 | .box _ _=>3
 | .buildSlice _ _ _=>3
 | .makeSlice _ _ _=>3
 | .makeMap _ _=>3
 |_=>2
noncomputable def opsOf:Op->List Operand
 | .move x=>[x]
 | .assign x=>[x]
 | .pick c a b=>[c,a,b]
 | .box _ x=>[x]
 | .build _ ps=>ps.toList.map (·.2)
 | .buildSlice _ _ ps=>ps.toList.map (·.2)
 | .load _ x=>[x]
 | .store _ a x=>[a,x]
 | .nilCheck x=>[x]
 | .binOp _ _ x y _=>[x,y]
 | .unOp _ _ x=>[x]
 | .convert _ _ x=>[x]
 | .makeFunc _ a b=>a.toList++b.toList
 | .makeSlice _ a b=>[a,b]
 | .slice _ x lo hi mx=>x::(lo.toList++hi.toList++mx.toList)
 | .fieldAddr _ x _=>[x]
 | .field _ x _=>[x]
 | .indexAddr _ x i=>[x,i]
 | .index _ x i=>[x,i]
 | .lookup _ x k _=>[x,k]
 | .mapUpdate _ x k v=>[x,k,v]
 | .range _ x=>[x]
 | .next x _=>[x]
 | .extract x _=>[x]
 | .entry x=>[x]
 | .mapEntry _ x k=>[x,k]
 | .entryStore _ x w v=>[x,w,v]
 | .call c=>(match c.callee with| .value f=>[f]|_=>[])++c.args.toList
 |_=>[]
noncomputable def ma:List Operand->List Tmp
 |[]=>[]
 | .tmp t::r=>t::ma r
 |_::r=>ma r
noncomputable def looks (all:List Oper)(o:Oper):List Tmp:=
 match o.guard with
 |none=>ma (opsOf o.op)
 |some (j,_)=>match fQ all j with|some t=>t::ma (opsOf o.op)|none=>ma (opsOf o.op)
noncomputable def deps (o:Oper):List Nat:=(o.after.toList.filter fun e=>Region.binds .any e).map fun e=>e.on
noncomputable def qN (i:Nat):List Nat->Bool
 |[]=>false
 |j::r=>match aX i j with|true=>true|false=>qN i r
noncomputable def Ua (a b:Nat):Nat:=match bn a b with|true=>b|false=>a
structure PO where
 k:Nat
 lo:Nat
 hi:Nat
noncomputable def is2 (k:Nat):Bool:=aX k 2
noncomputable def zAY (ks los:List Nat):List Nat->Nat
 |[]=>0
 |d::ds=>Ua (Ua (match ks[d]? with|some k=>(match is2 k with|true=>d+1|false=>0)|none=>0) (match los[d]? with|some x=>x|none=>0)) (zAY ks los ds)
noncomputable def XH (ks:List Nat):List Oper->List Nat->List Nat
 |[],los=>los
 |o::os,los=>dP (zAY ks los (deps o)) fun x=>XH ks os (los++[x])
noncomputable def Yv (i n:Nat):List Oper->List Nat->Nat->Nat
 |o::os,hj::r,j=>(match qN i (deps o)with
  |true=>dz (match is2 (kindOf o.op)with|true=>j|false=>hj) (Yv i n os r (cK j))
  |false=>Yv i n os r (cK j))
 |_,_,_=>n
noncomputable def zAf (n:Nat):List Oper->Nat->List Oper->List Nat->List Nat
 |[],_,_,acc=>acc
 |o::ro,i,later,acc=>dP (Yv (Nat.pred i) n later acc i) fun x=>zAf n ro (Nat.pred i) (o::later) (x::acc)
noncomputable def Xk:List Nat->List Nat->List Nat->List PO
 |k::ks,l::ls,h::hs=>⟨k,l,h⟩::Xk ks ls hs
 |_,_,_=>[]
noncomputable def GI:List Oper->List Nat
 |[]=>[]
 |o::os=>dP (kindOf o.op) fun k=>k::GI os
noncomputable def oh (ops:List Oper):List PO:=Xk (GI ops) (XH (GI ops) ops []) (zAf ops.length ops.reverse ops.length [] [])
noncomputable def KV {α:Type}(f:Nat->α->Bool):List α->Nat->Bool
 |[],_=>true
 |x::r,i=>match f i x with|true=>KV f r (cK i)|false=>false
noncomputable def Ta {α:Type}(f:Nat->α->Bool):List α->Nat->Bool
 |[],_=>false
 |x::r,i=>match f i x with|true=>true|false=>Ta f r (cK i)
noncomputable def zAb (l:List (Oper×PO))(po:PO)(ds:List Nat):Bool:=
 match po.lo with
 |0=>true
 |c+1=>ds.any fun d=>match l[d]? with
  |some x=>(is2 x.2.k&&aX c d)||aX x.2.lo (c+1)
  |none=>false
noncomputable def zAc (l:List (Oper×PO))(i:Nat)(po:PO):Bool:=
 bn l.length po.hi||Ta (fun j x=>qN i (deps x.1)&&((is2 x.2.k&&aX po.hi j)||aX x.2.hi po.hi)) l 0
noncomputable def Ov (l:List (Oper×PO))(i:Nat)(po:PO):Bool:=
 match is2 po.k with
 |true=>KV (fun j x=>match kV j i&&is2 x.2.k with|true=>kV j po.lo|false=>true) l 0
 |false=>true
noncomputable def IC (d:Option Tmp)(t:Tmp):Bool:=match d with|some q=>aX q t|none=>false
noncomputable def PK (all:List Oper)(l:List (Oper×PO))(i:Nat)(o:Oper):Bool:=
 KV (fun j x=>match x.1.dst with
  |none=>true
  |some q=>aX i j||(!(IC o.dst q)&&(!(qN q (looks all o))||qN j (deps o)||qN i (deps x.1)))) l 0
noncomputable def Rv (all:List Oper)(l:List (Oper×PO)):Bool:=
 KV (fun i x=>(deps x.1).all (fun d=>kV d i)&&aX x.2.k (kindOf x.1.op)&&bn x.2.lo i&&zAb l x.2 (deps x.1)&&zAc l i x.2&&Ov l i x.2&&PK all l i x.1) l 0
noncomputable def Qm:T->T->Bool
 | .int k a,.int j b=>Ir k j&&yF a b
 | .bool true,.bool true=>true
 | .bool false,.bool false=>true
 | .str a,.str b=>uR a b
 | .rZ,.rZ=>true
 | .ptr a o,.ptr b q=>aX a b&&aX o q
 | .dh,.dh=>true
 | .slice b o n c,.slice b' o' n' c'=>aX b b'&&aX o o'&&aX n n'&&aX c c'
 | .own b n,.own b' n'=>aX b b'&&aX n n'
 | .sub b o n,.sub b' o' n'=>aX b b'&&aX o o'&&aX n n'
 | .pY,.pY=>true
 | .map a,.map b=>aX a b
 | .nC,.nC=>true
 | .iM,.iM=>true
 |_,_=>false
noncomputable def Ff:List T->List T->Bool
 |[],[]=>true
 |a::r,b::q=>Qm a b&&Ff r q
 |_,_=>false
noncomputable def ZJ:T->T->Bool
 | .agg a,.agg b=>Ff a b
 |a,b=>Qm a b
noncomputable def QV:List T->List T->Bool
 |[],[]=>true
 |a::r,b::q=>ZJ a b&&QV r q
 |_,_=>false
noncomputable def eqT:T->T->Bool
 | .agg a,.agg b=>Ff a b
 | .tup a,.tup b=>QV a b
 |a,b=>Qm a b
noncomputable def Vn:Fn->Fn->Bool
 | .func f,.func g=>aX f g
 | .yield f,.yield g=>aX f g
 |_,_=>false
noncomputable def eqF:T->T->Bool
 | .func f a b,.func g c d=>Vn f g&&Ff a c&&Ff b d
 | .empty,.empty=>true
 |a,b=>eqT a b
structure Rec where
 o:Oper
 po:PO
 w:Bool
 t:T
 e:E
 s:S
 b:Nat
 ob:Option VO
noncomputable def Q0:S:=⟨.leaf none,1000000,1000000000⟩
noncomputable def KZ {β:Type}(s:S)(k:S->β):β:=match s with|⟨V,nx,low⟩=>k ⟨V,nx,low⟩
noncomputable def act:List Rec->Nat->S->S
 |[],_,s=>s
 |r::al,q,s=>match r.ob with
  |some ob=>(match aX r.po.hi q with|true=>act al q (bG s r.b (some ob) s.nx s.low)|false=>act al q s)
  |none=>act al q s
noncomputable def vN (p:Pr)(m:Fm)(cf:fG)(o:Oper)(k:Nat)(e:E)(s sa:S):Res (T×S):=
 match k with
 |0=>(match gQ p m o.op e Q0 with
  |some (t,s1)=>(match aX s1.nx 1000000&&bn 1000000 s1.low with|true=> .ok (t,s)|false=> .bad o.pos)
  |none=> .bad o.pos)
 |1=>(match gQ p m o.op e s with|some (t,_)=> .ok (t,s)|none=> .bad o.pos)
 |_=>(match bn s.nx 1000000 with|true=>oper p m cf o.op o.pos e sa|false=> .bad o.pos)
noncomputable def sAt (b:Nat):S:=⟨.leaf none,b,1000000000⟩
noncomputable def nH (p:Pr)(m:Fm)(o:Oper)(e:E)(b:Nat):Option (T×VO):=
 match gQ p m o.op e (sAt b)with
 |some (t,s1)=>(match s1.at b with|some ob=>some (t,ob)|none=>none)
 |none=>none
abbrev Sw:=List Rec->Nat->E->S->(E->S->List Rec->Res (E×S))->Res (E×S)
noncomputable def MH (p:Pr)(m:Fm)(cf:fG)(all:List Oper)(i:Nat)(o:Oper)(po:PO)(ih:Sw)(al:List Rec)(nb:Nat)(e:E)(s:S)(k:E->S->List Rec->Res (E×S)):Res (E×S):=
 match wants m all o.guard e with
 |some true=>(match aX po.k 3 with
  |true=>(match nH p m o e nb with
   |some (t,ob)=>qP m e o.dst t o.pos s fun e' s'=>ih (⟨o,po,true,t,e,s,nb,some ob⟩::al) (cK nb) e' s' fun ef sf rs=>k ef sf (⟨o,po,true,t,e,s,nb,some ob⟩::rs)
   |none=> .bad o.pos)
  |false=>(match KZ (act al i s) fun sa=>vN p m cf o po.k e s sa with
   | .ok (t,s1)=>qP m e o.dst t o.pos s1 fun e' s'=>ih al nb e' s' fun ef sf rs=>k ef sf (⟨o,po,true,t,e,s,0,none⟩::rs)
   | .bad w=> .bad w))
 |some false=>qP m e o.dst fB o.pos s fun e' s'=>ih al nb e' s' fun ef sf rs=>k ef sf (⟨o,po,false,fB,e,s,0,none⟩::rs)
 |none=> .bad o.pos
noncomputable def Ku (p:Pr)(m:Fm)(cf:fG)(all:List Oper)(l:List (Oper×PO)):Nat->Sw:=
 List.rec (motive:=fun _=>Nat->Sw) (fun _ _ _ e s k=>k e s []) (fun x _ ih i al nb e s k=>MH p m cf all i x.1 x.2 (ih (cK i)) al nb e s k) l
noncomputable def GD (p:Pr)(m:Fm)(r:Rec)(v:S):Bool:=match gQ p m r.o.op r.e v with|some (t,_)=>eqF r.t t|none=>false
noncomputable def zo (p:Pr)(m:Fm)(rs:List Rec)(n:Nat)(sn:S)(r:Rec):Bool:=
 match r.w&&aX r.po.k 1 with
 |true=>KV (fun q x=>match is2 x.po.k&&bn r.po.lo q&&bn q r.po.hi with|true=>GD p m r x.s|false=>true) rs 0&&(match bn r.po.lo n&&bn n r.po.hi with|true=>GD p m r sn|false=>true)
 |false=>true
noncomputable def uS:List (Oper×PO)->Nat
 |[]=>0
 |x::r=>match aX x.2.k 3 with|true=>cK (uS r)|false=>uS r
noncomputable def NJ (p:Pr)(self:ae)(m:Fm)(ops:Array Oper)(e:E)(d:List Nat)(s:S):Res Out:=
 match Rv ops.toList (ops.toList.zip (oh ops.toList))&&aX (oh ops.toList).length ops.toList.length with
 |true=>(match Ku p m (iJ p self) ops.toList (ops.toList.zip (oh ops.toList)) 0 [] s.nx e ⟨s.V,s.nx+uS (ops.toList.zip (oh ops.toList)),s.low⟩ (fun ef sn rs=>
  match rs.all (zo p m rs rs.length sn)&&rs.all (fun r=>bn r.s.nx 1000000)&&bn sn.nx 1000000 with|true=>KZ (act rs rs.length sn) fun sf=> .ok (ef,sf)|false=> .bad "a reading hangs on the order")with
  | .ok (e,s)=> .ok ⟨.normal,e,d,s⟩
  | .bad w=> .bad w)
 |false=> .bad "no plan"
noncomputable def Bb (p:Pr)(self:ae)(m:Fm)(ops:Array Oper)(e:E)(d:List Nat)(s:S):Res Out:=
 match xL p m (iJ p self) ops.toList ops.toList e s with
 | .ok (e,s)=> .ok ⟨.normal,e,d,s⟩
 | .bad w=> .bad w
noncomputable def bq:Code->Option Tmp
 | .seq a _=>bq a
 | .region _ ops false=>match ops.toList with
   |o::_=>(match o.guard,o.op with|none,.next (.tmp t) false=>some t|_,_=>none)
   |[]=>none
 |_=>none
noncomputable def nQ:Code->List Tmp
 | .seq a b=>nQ a++nQ b
 | .cond _ a b=>nQ a++nQ b
 | .block _ b=>nQ b
 | .region _ ops _=>ops.toList.filterMap fun o=>o.dst
 | .loop b=>nQ b
 | .scope b=>nQ b
 | .rangeFunc _ ps a b=>ps.toList++nQ a++nQ b
 |_=>[]
noncomputable def zAj (o:Oper):Option Tmp:=match o.op with| .assign _=>o.dst|_=>none
noncomputable def uk:Code->List Tmp
 | .seq a b=>uk a++uk b
 | .cond _ a b=>uk a++uk b
 | .block _ b=>uk b
 | .region _ ops _=>ops.toList.filterMap zAj
 | .loop b=>uk b
 | .scope b=>uk b
 | .rangeFunc _ _ a b=>uk a++uk b
 |_=>[]
noncomputable def forget (m:Fm):List Tmp->E->E
 |[],e=>e
 |t::ts,e=>ite (bn (cK t) m.n) (En.eU (Pa.of m.dp t) T.any e fun e=>forget m ts e) (forget m ts e)
noncomputable def isBool (m:Fm)(e:E)(t:Tmp):Bool:=match bu m e t with| .bool _=>ite (bn (cK t) m.n) true false|_=>false
noncomputable def Uc (m:Fm)(e:E)(b:Code):Option (Option Tmp):=
 match(uk b).filter (isBool m e)with
 |[]=>some none
 |[t]=>some (some t)
 |_=>none
noncomputable def qG (m:Fm)(a:Option Tmp)(v:Bool)(e:E):E:=match a with|none=>e|some t=>En.eU (Pa.of m.dp t) (.bool v) e fun e=>e
noncomputable def AZ (m:Fm)(a:Option Tmp)(e:E):Option Bool:=match a with|none=>some false|some t=>match bu m e t with| .bool v=>some v|_=>none
noncomputable def bY (p:Pr)(self:ae)(m:Fm)(ro:Option Nat)(v:T):Code->E->List Nat->S->Res Out
 | .seq a b,e,d,s=>(match bY p self m ro v a e d s with| .ok ⟨.normal,e,d,s⟩=>self m ro b e d s|r=>r)
 | .region _ ops false,e,d,s=>(match ops.toList with
   |o::rest=>(match qP m e o.dst v o.pos s (xL p m (iJ p self) ops.toList rest)with| .ok (e,s)=> .ok ⟨.normal,e,d,s⟩| .bad w=> .bad w)
   |[]=> .bad "head")
 |_,_,_,_=> .bad "head"
noncomputable def amO:Option VO->Bool
 |some o=>(match o with| .tZ _ _ _=>true| .pick _=>true|_=>false)
 |none=>false
noncomputable def amV:En (Option VO)->Bool:=fun t=>En.rec (motive:=fun _=>Bool) (fun v=>amO v) (fun _ _ a b=>match a with|true=>true|false=>b) t
noncomputable def yP (m:Fm)(e e':E)(n:Nat):Bool:=
 Rc (motive:=fun _=>Bool) true (fun x ih=>match bu m e x with
  | .any=>ih
  |t=>match eqF t (bu m e' x)with|true=>ih|false=>false) n
noncomputable def iD:List Nat->List Nat->Bool
 |[],[]=>true
 |a::r,b::q=>match aX a b with|true=>iD r q|false=>false
 |_,_=>false
noncomputable def jC (p:Pr)(self:ae)(m:Fm)(ro:Option Nat)(b:Code)(e:E)(d:List Nat)(s:S)(r mp:Nat)(es:List Ent)(j:Nat)(k v:T)(a:Option Tmp)(x:Bool):Option (Bool×Bool):=
 match bY p self m ro (.tup [.bool true,k,v]) b (qG m a x e) d (dX (dX ⟨s.V,s.nx,1000000000⟩ mp (.tZ es j false)) r (.pick mp))with
 | .ok ⟨.normal,e',d',s'⟩=>match bn s.nx s'.low&&yP m e e' m.n&&iD d d',s'.at mp,AZ m a e' with
   |true,some (.tZ _ _ del),some y=>some (del,y)
   |_,_,_=>none
 |_=>none
noncomputable def qH (p:Pr)(self:ae)(m:Fm)(ro:Option Nat)(b:Code)(e:E)(d:List Nat)(s:S)(r mp:Nat)(es:List Ent)(j:Nat)(k v:T)(a:Option Tmp)(y:Bool×Bool):Option (Bool×Bool):=
 match a with
 |none=>some y
 |some t=>jC p self m ro b e d s r mp es j k v (some t) true
noncomputable def rounds (p:Pr)(self:ae)(m:Fm)(ro:Option Nat)(b:Code)(e:E)(d:List Nat)(s:S)(r mp:Nat)(a:Option Tmp)(all:List Ent):List Ent->Nat->Option (List Ent×Bool)
 |[],_=>some ([],false)
 |(k,v,w)::es,j=>match jC p self m ro b e d s r mp all j k v a false with
  |some (del,y)=>match qH p self m ro b e d s r mp all j k v a (del,y)with
   |some (del',y')=>match del==del'&&(y'||a.isNone),rounds p self m ro b e d s r mp a all es (cK j)with
    |true,some (l,z)=>some (match del with|true=>l|false=>(k,v,w)::l,y||z)
    |_,_=>none
   |none=>none
  |none=>none
noncomputable def Ou (a:Option Tmp)(q:Tmp):Bool:=match a with|some t=>(match aX t q with|true=>false|false=>true)|none=>true
noncomputable def GY (p:Pr)(self:ae)(m:Fm)(ro:Option Nat)(b:Code)(e:E)(d:List Nat)(s:S)(q:Tmp)(r mp since last:Nat)(es:List Ent)(clock:Nat):Res Out:=
 match Uc m e b with
 |some a=>match AZ m a e,bu m (forget m (nQ b) e) q,!amV s.V&&bn since last&&bn since clock&&es.all (fun x=>kV x.2.2 since)&&Ou a q with
  |some x0,.ptr _ _,true=>match rounds p self m ro b (forget m (nQ b) e) d s r mp a es es 0 with
   |some (l,y)=>match bY p self m ro (.tup [.bool false]) b (qG m a (x0||y) (forget m (nQ b) e)) d (bG (gI s mp (.map l clock)) r none s.nx (dz (dz s.low mp) r))with
    | .ok ⟨.normal,_,_,_⟩=> .bad "the range goes on"
    |x=>x
   |none=> .bad "rounds"
  |_,_,_=> .bad "accumulator"
 |none=> .bad "accumulators"
noncomputable def TA (self:ae)(m:Fm)(ro:Option Nat)(b:Code)(n:Nat):E->List Nat->S->Res Out:=
 Rc (motive:=fun _=>E->List Nat->S->Res Out) (fun _ _ _=> .bad "rounds") (fun _ ih e d s=>match self m ro b e d s with
  | .ok ⟨.normal,e,d,s⟩=>ih e d s
  |r=>r) n
noncomputable def uP (self:ae)(m:Fm)(ro:Option Nat)(b:Code)(e:E)(d:List Nat)(s:S):Res Out:=TA self m ro b 1000000 e d s
noncomputable def mr (s:S)(r:Nat):Option (List Ent×Nat×Nat×List Nat×Nat):=
 match s.at r with
 |some (.iU mp since seen last)=>(match s.at mp with
  |some (.map es clock)=>(match bn since last&&(bn since clock&&es.all (fun x=>kV x.2.2 since))with
   |true=>some (es.filter (fun e=> !(seen.any fun b=>aX b e.2.2)),mp,since,seen,clock)
   |false=>none)
  |_=>none)
 |some (.iG mp since seen _)=>(match s.at mp with
  |some (.map es clock)=>(match bn since clock&&es.all (fun x=>kV x.2.2 since)with
   |true=>some (es.filter (fun e=> !(seen.any fun b=>aX b e.2.2)),mp,since,seen,clock)
   |false=>none)
  |_=>none)
 |_=>none
noncomputable def G6 (p:Pr)(self:ae)(m:Fm)(ro:Option Nat)(b:Code)(e:E)(d:List Nat)(s:S)(r mp since:Nat)(seen:List Nat)(clock:Nat):List Ent->Res (List Out)
 |[]=> .ok []
 |c::cs=>match bY p self m ro (.tup [.bool true,c.1,c.2.1]) b e d (gI s r (.iG mp since (seen++[c.2.2]) clock))with
  | .ok o=>(match G6 p self m ro b e d s r mp since seen clock cs with| .ok l=> .ok (o::l)| .bad w=> .bad w)
  | .bad w=> .bad w
noncomputable def Eb (p:Pr)(self:ae)(m:Fm)(ro:Option Nat)(q:Tmp)(b:Code)(e:E)(d:List Nat)(s:S):Res (List Out):=
 match bu m e q with
 | .ptr r 0=>(match mr s r with
   |some (cs,mp,since,seen,clock)=>(match cs with
    |[]=>(match bY p self m ro (.tup [.bool false]) b e d s with| .ok o=> .ok [o]| .bad w=> .bad w)
    |c::cs=>G6 p self m ro b e d s r mp since seen clock (c::cs))
   |none=> .bad "range over a map")
 |_=> .bad "range over a map"
noncomputable def zg (f:Out->Res (List Out)):List Out->Res (List Out)
 |[]=> .ok []
 |o::L=>match f o with
  | .ok l=>(match zg f L with| .ok r=> .ok (l++r)| .bad w=> .bad w)
  | .bad w=> .bad w
noncomputable def mf (o:Out):Bool:=match o.x with| .normal=>true|_=>false
noncomputable def yM (f:Out->Res (List Out))(mg:List Out->Option (List Out)):Nat->List Out->Res (List Out)
 |0,_=> .bad "orders"
 |n+1,L=>match zg f L with
  | .ok outs=>(match mg (outs.filter mf)with
    |some []=> .ok (outs.filter fun o=> !(mf o))
    |some N=>(match yM f mg n N with| .ok Y=> .ok ((outs.filter fun o=> !(mf o))++Y)| .bad w=> .bad w)
    |none=> .bad "orders differ")
  | .bad w=> .bad w
noncomputable def TW (x y:Ent):Bool:=eqF x.1 y.1&&(eqF x.2.1 y.2.1&&aX x.2.2 y.2.2)
noncomputable def wK:List Ent->List Ent->Bool
 |[],[]=>true
 |x::a,y::b=>TW x y&&wK a b
 |_,_=>false
noncomputable def JG:List T->List T->Bool
 |[],[]=>true
 |x::a,y::b=>eqF x y&&JG a b
 |_,_=>false
noncomputable def ZA:Bool->Bool->Bool|true,true=>true|false,false=>true|_,_=>false
noncomputable def MQ:List (List T)->List (List T)->Bool
 |[],[]=>true
 |x::a,y::b=>JG x y&&MQ a b
 |_,_=>false
noncomputable def KX:VO->VO->Bool
 | .bag a t,.bag b u=>aX t u&&MQ a b
 | .row a t x,.row b u y=>aX t u&&(ZA x y&&JG a b)
 | .ro a t,.ro b u=>aX t u&&JG a b
 | .map a c,.map b d=>aX c d&&wK a b
 | .pO a i,.pO b j=>aX i j&&uR a b
 | .iU a b c d,.iU a' b' c' d'=>aX a a'&&(aX b b'&&(aX d d'&&iD c c'))
 | .iG a b c d,.iG a' b' c' d'=>aX a a'&&(aX b b'&&(aX d d'&&iD c c'))
 | .uf a,.uf b=>ZA a b
 |_,_=>false
noncomputable def Mq:List T->List T->Bool
 |[],[]=>true
 |x::a,y::b=>eqT x y&&Mq a b
 |_,_=>false
noncomputable def eqV:T->T->Bool
 | .func f a b,.func g c d=>Vn f g&&(Mq a c&&Mq b d)
 |a,b=>eqF a b
noncomputable def IV (v:VO):List Out->Nat->Option VO
 |[],_=>some v
 |o::L,b=>match o.s.at b with
  |some w=>(match KX w v with|true=>IV v L b|false=>none)
  |none=>none
noncomputable def qL (o:Out)(L:List Out):Nat->Nat->En (Option VO)->En (Option VO)
 |0,_,V=>V
 |n+1,b,V=>ite (bn b 16383) (match o.s.at b with
  |some v=>(match IV v L b with
   |some v=>En.eU (Pa.of 14 b) (some v) V fun V=>qL o L n (cK b) V
   |none=>En.eU (Pa.of 14 b) none V fun V=>qL o L n (cK b) V)
  |none=>En.eU (Pa.of 14 b) none V fun V=>qL o L n (cK b) V) V
noncomputable def Ng (m:Fm)(v:T):List Out->Nat->Bool
 |[],_=>true
 |o::L,t=>match eqV v (bu m o.e t)with|true=>Ng m v L t|false=>false
noncomputable def Dq (m:Fm)(o:Out)(L:List Out):Nat->E->E
 |0,acc=>acc
 |n+1,acc=>force (bu m o.e n) fun v=>match Ng m v L n with
  |true=>En.eU (Pa.of m.dp n) v acc fun acc=>Dq m o L n acc
  |false=>Dq m o L n acc
noncomputable def eqX:Ex->Ex->Bool
 | .normal,.normal=>true
 | .ret,.ret=>true
 | .exit i,.exit j=>aX i j
 | .goto i,.goto j=>aX i j
 |_,_=>false
noncomputable def pR:List Out->Nat->Nat
 |[],a=>a
 |o::L,a=>pR L (dz o.s.low a)
noncomputable def Ag:List Out->Nat->Nat
 |[],a=>a
 |o::L,a=>Ag L (Ua o.s.nx a)
noncomputable def DT (m:Fm)(s:S)(o:Out)(L:List Out):Option Out:=
 dP (pR (o::L) s.low) fun lo=>dP (Ag (o::L) s.nx) fun hi=>dP (dz lo s.nx) fun l1=>
  match bn (yw hi l1) 4000&&L.all (fun y=>eqX y.x o.x&&iD y.d o.d)with
  |true=>some ⟨o.x,Dq m o L m.n (.leaf .any),o.d,⟨qL o L (yw hi l1) l1 s.V,hi,lo⟩⟩
  |false=>none
noncomputable def Xb:T->List Nat
 | .ptr b _=>[b]
 | .slice b _ _ _=>[b]
 | .own b _=>[b]
 | .sub b _ _=>[b]
 | .map b=>[b]
 |_=>[]
noncomputable def TD:List T->List Nat
 |[]=>[]
 |t::l=>Xb t++TD l
noncomputable def Xo:T->List Nat
 | .agg l=>TD l
 | .tup l=>TD l
 |t=>Xb t
noncomputable def La:List T->List Nat
 |[]=>[]
 |t::l=>Xo t++La l
noncomputable def Nj:T->List Nat
 | .func f a b=>(match f with| .yield l=>[l]| .func _=>La a++La b|_=>[])
 |t=>Xo t
noncomputable def FT:List T->List Nat
 |[]=>[]
 |t::l=>Nj t++FT l
noncomputable def Tm:List Ent->List Nat
 |[]=>[]
 |x::l=>Nj x.1++(Nj x.2.1++Tm l)
noncomputable def Xf:VO->List Nat
 | .row cs _ _=>FT cs
 | .ro cs _=>FT cs
 | .map es _=>Tm es
 | .iU mp _ _ _=>[mp]
 | .iG mp _ _ _=>[mp]
 | .BL mp _ _ _=>[mp]
 | .bag els _=>FT els.flatten
 |_=>[]
noncomputable def Vl (s:S)(base:Nat):Nat->List Nat->List Nat->List Nat
 |0,_,acc=>acc
 |_+1,[],acc=>acc
 |n+1,b::w,acc=>match kV b base||qN b acc with
  |true=>Vl s base n w acc
  |false=>Vl s base n ((match s.at b with|some o=>Xf o|none=>[])++w) (acc++[b])
noncomputable def PY (b:Nat):List Nat->Nat->Option Nat
 |[],_=>none
 |c::l,k=>match aX b c with|true=>some k|false=>PY b l (cK k)
noncomputable def rho (base:Nat)(L:List Nat)(b:Nat):Option Nat:=match kV b base with|true=>some b|false=>PY b L base
noncomputable def Vi (ρ:Nat->Option Nat):T->T
 | .bool b=> .bool b
 | .int k n=> .int k n
 | .str s=> .str s
 | .rZ=> .rZ
 | .ptr b o=>(match ρ b with|some c=> .ptr c o|none=> .any)
 | .dh=> .dh
 | .slice b o n c=>(match ρ b with|some d=> .slice d o n c|none=> .any)
 | .own b n=>(match ρ b with|some c=> .own c n|none=> .any)
 | .sub b o n=>(match ρ b with|some c=> .sub c o n|none=> .any)
 | .empty=> .empty
 | .pY=> .pY
 | .map b=>(match ρ b with|some c=> .map c|none=> .any)
 | .nC=> .nC
 | .iM=> .iM
 |_=> .any
noncomputable def Df (ρ:Nat->Option Nat):List T->List T
 |[]=>[]
 |t::l=>Vi ρ t::Df ρ l
noncomputable def Wu (ρ:Nat->Option Nat):T->T
 | .agg l=> .agg (Df ρ l)
 | .tup l=> .tup (Df ρ l)
 |t=>Vi ρ t
noncomputable def D7 (ρ:Nat->Option Nat):List T->List T
 |[]=>[]
 |t::l=>Wu ρ t::D7 ρ l
noncomputable def IW (ρ:Nat->Option Nat):T->T
 | .func f a b=>(match f with
   | .func g=> .func (.func g) (D7 ρ a) (D7 ρ b)
   | .yield l=>(match ρ l with|some c=> .func (.yield c) a b|none=> .any)
   |_=> .any)
 |t=>Wu ρ t
noncomputable def jv (ρ:Nat->Option Nat):List T->List T
 |[]=>[]
 |t::l=>force (IW ρ t) fun t=>t::jv ρ l
noncomputable def D6 (ρ:Nat->Option Nat):List Ent->List Ent
 |[]=>[]
 |x::l=>(IW ρ x.1,IW ρ x.2.1,x.2.2)::D6 ρ l
noncomputable def wh (ρ:Nat->Option Nat):VO->Option VO
 | .row cs ct tl=>some (.row (jv ρ cs) ct tl)
 | .ro cs ct=>some (.ro (jv ρ cs) ct)
 | .map es c=>some (.map (D6 ρ es) c)
 | .pO a i=>some (.pO a i)
 | .bag els ct=>some (.bag (els.map (jv ρ)) ct)
 | .iU mp a b c=>(match ρ mp with|some q=>some (.iU q a b c)|none=>none)
 | .iG mp a b c=>(match ρ mp with|some q=>some (.iG q a b c)|none=>none)
 | .BL mp a b c=>(match ρ mp with|some q=>some (.BL q a b c)|none=>none)
 |_=>none
noncomputable def TB (m:Fm)(ρ:Nat->Option Nat)(fg:List Nat)(e:E):Nat->E->E
 |0,acc=>acc
 |n+1,acc=>match qN n fg with
  |true=>TB m ρ fg e n acc
  |false=>force (IW ρ (bu m e n)) fun v=>En.eU (Pa.of m.dp n) v acc fun acc=>TB m ρ fg e n acc
noncomputable def G5 (m:Fm)(fg:List Nat)(e:E):Nat->Nat->List Nat
 |0,_=>[]
 |k+1,t=>match qN t fg with
  |true=>G5 m fg e k (cK t)
  |false=>Nj (bu m e t)++G5 m fg e k (cK t)
noncomputable def LG (s:S):Nat->Nat->List Nat
 |0,_=>[]
 |k+1,b=>(match s.at b with|some o=>Xf o|none=>[])++LG s k (cK b)
noncomputable def jr (ρ:Nat->Option Nat)(s:S)(b:Nat):Option VO:=match s.at b with|some o=>wh ρ o|none=>none
noncomputable def yI (ρ:Nat->Option Nat)(s:S):Nat->Nat->En (Option VO)->En (Option VO)
 |0,_,V=>V
 |n+1,b,V=>ite (bn b 16383) (match jr ρ s b with
  |some v=>En.eU (Pa.of 14 b) (some v) V fun V=>yI ρ s n (cK b) V
  |none=>En.eU (Pa.of 14 b) none V fun V=>yI ρ s n (cK b) V) V
noncomputable def zJ (ρ:Nat->Option Nat)(s:S):List Nat->Nat->En (Option VO)->En (Option VO)
 |[],_,V=>V
 |b::L,k,V=>ite (bn k 16383) (match jr ρ s b with
  |some v=>En.eU (Pa.of 14 k) (some v) V fun V=>zJ ρ s L (cK k) V
  |none=>En.eU (Pa.of 14 k) none V fun V=>zJ ρ s L (cK k) V) V
noncomputable def Et {β:Type}:List Nat->(List Nat->β)->β
 |[],k=>k []
 |a::l,k=>dP a fun a=>Et l fun l=>k (a::l)
noncomputable def nodupB:List Nat->Bool
 |[]=>true
 |a::l=> !(qN a l)&&nodupB l
noncomputable def jo (m:Fm)(s:S)(fg:List Nat)(o:Out):Out:=
 match o.d with
 |[]=>dP (dz o.s.low s.nx) fun lo=>match bn (yw s.nx lo) 4000 with
  |true=>Et (Vl o.s s.nx 4000 (G5 m fg o.e m.n 0++LG o.s (yw s.nx lo) lo) []) fun L=>match nodupB L&&L.all (fun b=>bn s.nx b)with
   |true=>dP (s.nx+L.length) fun nx=>⟨o.x,TB m (rho s.nx L) fg o.e m.n (.leaf .any),[],⟨zJ (rho s.nx L) o.s L s.nx (yI (rho s.nx L) o.s (yw s.nx lo) lo s.V),nx,o.s.low⟩⟩
   |false=>o
  |false=>o
 |_=>o
noncomputable def kF (b:Code):List Nat:=(nQ b).filter fun t=> !(qN t (uk b))
noncomputable def Tn (x:Nat):List Nat->List Nat
 |[]=>[x]
 |y::l=>match bn x y with|true=>x::y::l|false=>y::Tn x l
noncomputable def Nf:List Nat->List Nat
 |[]=>[]
 |x::l=>Tn x (Nf l)
noncomputable def Bu (since:Nat)(l:List Nat):List Nat:=Nf (l.filter fun w=>kV w since)++[since]
noncomputable def TL (s:S)(r:Nat):S:=
 match s.at r with
 |some (.iG mp since seen _)=>(match kV 0 since with|true=>dX s r (.iG mp since (Bu since seen) 0)|false=>s)
 |_=>s
noncomputable def seenAt (s:S)(r:Nat):List Nat:=match s.at r with|some (.iG _ _ seen _)=>seen|_=>[]
noncomputable def xY (m:Fm)(s:S)(r:Nat):Nat->List Out->Option (List Out)
 |_,[]=>some []
 |0,_::_=>none
 |k+1,o::L=>match DT m s o (L.filter fun y=>iD (seenAt y.s r) (seenAt o.s r)),xY m s r k (L.filter fun y=> !(iD (seenAt y.s r) (seenAt o.s r)))with
  |some J,some N=>some (J::N)
  |_,_=>none
noncomputable def wR (r:Nat)(o:Out):Out:=⟨o.x,o.e,o.d,TL o.s r⟩
noncomputable def mergeD (m:Fm)(s:S)(fg:List Nat)(r:Nat)(L:List Out):Option (List Out):=xY m s r 1000 (L.map fun o=>jo m s fg (wR r o))
noncomputable def bC (s:S):S:=⟨s.V,s.nx,1000000000⟩
noncomputable def zBQ (s:S)(r:Nat):Bool:=match mr s r with|some (cs,_)=>bn cs.length 6|none=>false
noncomputable def Lp (p:Pr)(self:ae)(m:Fm)(ro:Option Nat)(b:Code)(e:E)(d:List Nat)(s:S)(q:Tmp)(r:Nat):Res Out:=
 match amV s.V|| !(zBQ s r)with
 |true=> .bad "ranged over"
 |false=>match yM (fun o=>Eb p self m ro q b o.e o.d o.s) (mergeD m (bC s) (kF b) r) 1000 [⟨.normal,e,d,bC s⟩]with
  | .ok Y=>(match Y.map (jo m (bC s) (kF b))with
    |o::L=>(match DT m (bC s) o L with
     |some J=>KZ ⟨J.s.V,J.s.nx,dz J.s.low s.low⟩ fun s=> .ok ⟨J.x,J.e,J.d,s⟩
     |none=> .bad "outcomes differ")
    |[]=> .bad "no outcome")
  | .bad w=> .bad w
noncomputable def yJ:Code->List Nat->Bool
 | .seq a b,l=>yJ a l||yJ b l
 | .cond _ a b,l=>yJ a l||yJ b l
 | .block i b,l=>yJ b (i::l)
 | .exit i,l=> !(qN i l)
 | .ret,_=>true
 | .loop b,l=>yJ b l
 | .scope b,l=>yJ b l
 |_,_=>false
noncomputable def searches:Code->Bool
 | .seq (.region _ _ _) (.seq _ b)=>yJ b []
 |_=>false
noncomputable def kG (p:Pr)(self:ae)(m:Fm)(ro:Option Nat)(b:Code)(e:E)(d:List Nat)(s:S)(r mp since clock:Nat):List Ent->Res (List Out)
 |[]=> .ok []
 |c::cs=>match bY p self m ro (.tup [.bool true,c.1,c.2.1]) b e d (dX s r (.iB mp since c.2.2 clock))with
  | .ok o=>(match mf o with
    |true=>(match bn s.nx o.s.low&&(yP m e o.e m.n&&iD d o.d)with
     |true=>kG p self m ro b e d s r mp since clock cs
     |false=> .bad "a round changes something")
    |false=>(match kG p self m ro b e d s r mp since clock cs with| .ok X=> .ok (o::X)| .bad w=> .bad w))
  | .bad w=> .bad w
noncomputable def zK (r:Nat)(o:Out):Out:=⟨o.x,o.e,o.d,⟨o.s.V,o.s.nx,dz o.s.low r⟩⟩
noncomputable def Nw (p:Pr)(self:ae)(m:Fm)(ro:Option Nat)(b:Code)(e:E)(d:List Nat)(s:S)(r:Nat):Res (List Out):=
 match mr s r with
 |some (cs,mp,since,_,clock)=>(match aX mp r with
  |true=> .bad "map"
  |false=>(match kG p self m ro b (forget m (nQ b) e) d (bC s) r mp since clock cs with
   | .ok X=>(match X with
     |_::_=> .ok (X.map (zK r))
     |[]=>(match bY p self m ro (.tup [.bool false]) b (forget m (nQ b) e) d (bG (bC s) r none s.nx 1000000000)with
      | .ok o=>(match mf o with|true=> .bad "the range goes on" |false=> .ok [zK r o])
      | .bad w=> .bad w))
   | .bad w=> .bad w))
 |none=> .bad "range over a map"
noncomputable def FW (p:Pr)(self:ae)(m:Fm)(ro:Option Nat)(b:Code)(e:E)(d:List Nat)(s:S)(r:Nat):Res Out:=
 match amV s.V with
 |true=> .bad "ranged over"
 |false=>match Nw p self m ro b e d s r with
  | .ok Y=>(match Y.map (jo m (bC s) (kF b))with
    |o::L=>(match DT m (bC s) o L with
     |some J=>KZ ⟨J.s.V,J.s.nx,dz J.s.low s.low⟩ fun s=> .ok ⟨J.x,J.e,J.d,s⟩
     |none=> .bad "outcomes differ")
    |[]=> .bad "no outcome")
  | .bad w=> .bad w
noncomputable def OJ (p:Pr)(self:ae)(m:Fm)(ro:Option Nat)(b:Code)(e:E)(d:List Nat)(s:S)(q:Tmp)(r:Nat):Res Out:=
 match searches b with
 |true=>(match bu m (forget m (nQ b) e) q with
  | .ptr a 0=>(match aX a r with|true=>FW p self m ro b e d s r|false=> .bad "no search")
  |_=> .bad "no search")
 |false=> .bad "no search"
noncomputable def isApp (o:Oper):Bool:=match o.op with| .call c=>(match c.callee with| .builtin .append=>true|_=>false)|_=>false
noncomputable def qF:Code->Bool
 | .seq a b=>qF a||qF b
 | .cond _ a b=>qF a||qF b
 | .block _ b=>qF b
 | .region _ ops _=>ops.toList.any isApp
 | .loop b=>qF b
 | .scope b=>qF b
 |_=>false
noncomputable def Ga:Code->Option (Nat×Code×Tmp)
 | .block i (.loop b)=>(match bq b with|some q=>(match qF b with|true=>some (i,b,q)|false=>none)|none=>none)
 |_=>none
noncomputable def zAS (m:Fm)(e:E)(s:S)(q:Tmp):Bool:=match bu m e q with| .ptr r 0=>(match mr s r with|some (_::_::_,_)=>zBQ s r|_=>false)|_=>false
noncomputable def FE (i:Nat)(o:Out):Out:=match o.x with| .exit j=>(match aX j i with|true=>⟨.normal,o.e,o.d,o.s⟩|false=>o)|_=>o
noncomputable def zy (self:ae)(m:Fm)(ro:Option Nat)(c:Code):List Out->Res (List Out)
 |[]=> .ok []
 |o::L=>match o.x with
  | .normal=>(match self m ro c o.e o.d o.s with
    | .ok y=>(match y.x with
      | .normal=>(match zy self m ro c L with| .ok r=> .ok (y::r)| .bad w=> .bad w)
      |_=> .bad "ends")
    | .bad w=> .bad w)
  |_=> .bad "ends"
noncomputable def ltT:T->T->Bool
 | .int _ a,.int _ b=>ltI a b
 |_,_=>false
noncomputable def ltL:List T->List T->Bool
 |[],_=>false
 |_::_,[]=>false
 |x::a,y::b=>match ltT x y with|true=>true|false=>(match ltT y x with|true=>false|false=>ltL a b)
noncomputable def Ux (x:List T):List (List T)->List (List T)
 |[]=>[x]
 |y::l=>match ltL y x with|true=>y::Ux x l|false=>x::y::l
noncomputable def KQ:List (List T)->List (List T)
 |[]=>[]
 |x::l=>Ux x (KQ l)
noncomputable def C8 (k:Nat):Nat->List T->List (List T)
 |0,_=>[]
 |n+1,l=>l.take k::C8 k n (l.drop k)
noncomputable def Sj (v:VO)(n:Nat):Option VO:=
 match v with
 | .row cs ct true=>(match kV 0 n&&aX (n*KN cs.length n) cs.length with|true=>some (.bag (KQ (C8 (KN cs.length n) n cs)) ct)|false=>none)
 | .bag els ct=>some (.bag (KQ els) ct)
 |_=>none
noncomputable def JR (m:Fm):List Tmp->Out->Out
 |[],o=>o
 |t::ts,o=>match bu m o.e t with
  | .own b n=>(match o.s.at b with
    |some v=>(match Sj v n with|some w=>KZ (dX o.s b w) fun s=>JR m ts ⟨o.x,o.e,o.d,s⟩|none=>JR m ts o)
    |none=>JR m ts o)
  |_=>JR m ts o
noncomputable def Sl (m:Fm)(s:S)(lb:Code)(r:Nat)(L:List Out):Option (List Out):=xY m s r 1000 (L.map fun o=>jo m s (kF lb) (JR m (uk lb) (wR r o)))
noncomputable def xP (p:Pr)(self:ae)(m:Fm)(ro:Option Nat)(mg:List Out->Option (List Out))(i:Nat)(lb:Code)(q:Tmp)(c rest:Code)(e:E)(d:List Nat)(s:S):Res Out:=
 match yM (fun o=>Eb p self m ro q lb o.e o.d o.s) mg 1000 [⟨.normal,e,d,bC s⟩]with
 | .ok Y=>(match zy self m ro c (Y.map (FE i))with
   | .ok Z=>(match Z.map (jo m (bC s) (kF lb))with
    |o::L=>(match DT m (bC s) o L with
     |some J=>(match J.x with
      | .normal=>KZ ⟨J.s.V,J.s.nx,dz J.s.low s.low⟩ fun s=>self m ro rest J.e J.d s
      |_=> .bad "ends")
     |none=> .bad "outcomes differ")
    |[]=> .bad "no outcome")
   | .bad w=> .bad w)
 | .bad w=> .bad w
noncomputable def zCB (s:S)(r:Nat):Bool:=match mr s r with|some (cs,_)=>bn cs.length 3|none=>false
noncomputable def Bq (p:Pr)(self:ae)(m:Fm)(ro:Option Nat)(a b:Code)(e:E)(d:List Nat)(s:S):Res Out:=
 match a,b with
 | .seq a1 a2,.seq c rest=>(match Ga a2 with
   |some (i,lb,q)=>(match self m ro a1 e d s with
    | .ok ⟨.normal,e1,d1,s1⟩=>(match zAS m e1 s1 q&& !amV s1.V with
      |true=>(match bu m e1 q with
       | .ptr r _=>(match xP p self m ro (Sl m (bC s1) lb r) i lb q c rest e1 d1 s1 with
         | .ok o=> .ok o
         | .bad w=>(match zCB s1 r with|true=>xP p self m ro some i lb q c rest e1 d1 s1|false=> .bad w))
       |_=>xP p self m ro some i lb q c rest e1 d1 s1)
      |false=>Da self m ro a b e d s)
    |_=>Da self m ro a b e d s)
   |none=>Da self m ro a b e d s)
 |_,_=>Da self m ro a b e d s
noncomputable def nu (p:Pr)(self:ae)(m:Fm)(ro:Option Nat)(b:Code)(e:E)(d:List Nat)(s:S):Res Out:=
 match bq b with
 |none=>uP self m ro b e d s
 |some t=>match bu m e t with
  | .ptr r 0=>match s.at r with
    |some (.iU mp since [] last)=>(match s.at mp with
     |some (.map es clock)=>(match es with|_::_::_=>(match OJ p self m ro b e d s t r with| .ok o=> .ok o| .bad _=>(match GY p self m ro b e d s t r mp since last es clock with| .ok o=> .ok o| .bad w=>(match Lp p self m ro b e d s t r with| .ok o=> .ok o| .bad v=> .bad (w++ "/" ++v))))|_=>uP self m ro b e d s)
     |_=>uP self m ro b e d s)
    |_=>uP self m ro b e d s
  |_=>uP self m ro b e d s
noncomputable def KE:List Ent->List Nat
 |[]=>[]
 |x::l=>dP x.2.2 fun w=>w::KE l
noncomputable def YO (s:S)(r:Nat):Option (Nat×Nat×Nat×List Nat):=
 match s.at r with
 |some (.iU mp since [] last)=>(match s.at mp with
  |some (.map es clock)=>(match bn since last&&(bn since clock&&es.all (fun x=>kV x.2.2 since))with
   |true=>some (mp,since,0,KE es)
   |false=>none)
  |_=>none)
 |some (.BL mp since k bs)=>(match s.at mp with
  |some (.map es clock)=>(match bn since clock&&(es.all (fun x=>kV x.2.2 since)&&iD bs (KE es))with
   |true=>some (mp,since,k,bs)
   |false=>none)
  |_=>none)
 |_=>none
noncomputable def Nn (p:Pr)(self:ae)(m:Fm)(ro:Option Nat)(q:Tmp)(b:Code)(e:E)(d:List Nat)(s:S):Res (List Out):=
 match bu m e q with
 | .ptr r 0=>(match YO s r with
   |some (mp,since,k,bs)=>(match kV k bs.length with
    |true=>dP (cK k) fun k=>(match bY p self m ro (.tup [.bool true,.any,.any]) b e d (gI s r (.BL mp since k bs))with| .ok o=> .ok [o]| .bad w=> .bad w)
    |false=>(match bY p self m ro (.tup [.bool false]) b e d s with| .ok o=> .ok [o]| .bad w=> .bad w))
   |none=> .bad "range over a map")
 |_=> .bad "range over a map"
noncomputable def wI (p:Pr)(self:ae)(m:Fm)(ro:Option Nat)(b:Code)(e:E)(d:List Nat)(s:S)(q:Tmp):Res Out:=
 match yM (fun o=>Nn p self m ro q b o.e o.d o.s) some 1000 [⟨.normal,e,d,s⟩]with
 | .ok [o]=> .ok o
 | .ok _=> .bad "outcomes"
 | .bad w=> .bad w
noncomputable def looksAt (t:Tmp)(x:Oper):Bool:=match x.op with
 | .entry (.tmp u)=>aX u t
 |_=>false
noncomputable def mq (t:Tmp):Code->Bool
 | .seq a b=>mq t a||mq t b
 | .cond _ a b=>mq t a||mq t b
 | .block _ b=>mq t b
 | .region _ ops _=>ops.toList.any (looksAt t)
 | .loop b=>mq t b
 | .scope b=>mq t b
 | .rangeFunc _ _ a b=>mq t a||mq t b
 |_=>false
noncomputable def YC (b:Code):Bool:=match bq b with
 |some q=> !(mq q b)
 |none=>false
noncomputable def wy (p:Pr)(self:ae)(m:Fm)(ro:Option Nat)(b:Code)(e:E)(d:List Nat)(s:S):Res Out:=
 match bq b with
 |none=>uP self m ro b e d s
 |some t=>match YC b with
  |false=>nu p self m ro b e d s
  |true=>match wI p self m ro b e d s t with
   | .ok o=> .ok o
   | .bad _=>nu p self m ro b e d s
noncomputable def El (self:ae)(m:Fm)(ro:Option Nat)(b:Code)(e:E)(d:List Nat)(s:S):Res Out:=
 match self m ro b e d s with
 | .ok ⟨.goto _,_,_,_⟩=> .bad "goto"
 |r=>r
noncomputable def Er (p:Pr)(self:ae)(m:Fm)(ro:Option Nat)(f:Operand)(ps:Array Tmp)(a b:Code)(e:E)(d:List Nat)(s:S):Res Out:=
 match opd m e f with
 |some g=>Rl p self m ro g ps.toList a b e d s
 |none=> .bad "range"
noncomputable def step (p:Pr)(self:ae):ae:=fun m ro c e d s=>
 match c with
 | .skip=> .ok ⟨.normal,e,d,s⟩
 | .label _=> .ok ⟨.normal,e,d,s⟩
 | .ret=> .ok ⟨.ret,e,d,s⟩
 | .exit i=> .ok ⟨.exit i,e,d,s⟩
 | .goto i=> .ok ⟨.goto i,e,d,s⟩
 | .seq a b=>Bq p self m ro a b e d s
 | .cond x a b=>Kg self m ro x a b e d s
 | .block i b=>FU self m ro i b e d s
 | .region _ ops draw=>(match draw with|true=>NJ p self m ops e d s|false=>Bb p self m ops e d s)
 | .loop b=>wy p self m ro b e d s
 | .scope b=>El self m ro b e d s
 | .rangeFunc f ps a b=>Er p self m ro f ps a b e d s
 | .refuse _=> .bad "refused"
noncomputable def DK (p:Pr)(n:Nat):ae:=Rc (motive:=fun _=>ae) (fun _ _ _ _ _ _=> .bad "fuel") (fun _ ih=>step p ih) n
noncomputable def run (p:Pr)(n:Nat)(f:FuncId)(args:List T)(s:S):Res (T×S):=qQ p (DK p n) f args s
noncomputable def s0:S:=⟨.leaf none,0,1000000000⟩
end Go.Run
