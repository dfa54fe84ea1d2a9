/- Lemmas. No condition. -/
import Derived.TacticsIn
import Derived.OrdersIn
import Derived.RangeFuncLeaves
import Derived.RangeFuncCalls
import Derived.RangeFuncRecord
import Derived.IntWalk
import Derived.Deep.MidRow
import Derived.Laws.AppendOwn
open And renaming intro→aD
open Bool renaming and_eq_true→aF,false_eq_true→eB,or_eq_true→gL,not_eq_true'→lh
open Go.Result renaming andThen_ok→aN
open List renaming getElem?_eq_getElem→aW,replicate→aZ,all_eq_true→bJ,length_cons→ed,getElem?_take→eD,getElem?_cons_succ→eP,length_take→kD,getElem?_drop→kL,take_take→lX,getElem?_eq_none→mI,append_assoc→pE,ext_getElem?→pV,cons_append→qp,drop_drop→rA,getD→rT,getElem?_set→rX,contains_eq_mem→vE,getElem?_append→vW,drop_take→zB,mapM_cons→zL,mapM_toArray→MV,mem_range→Sn
open Go.Sem renaming run_bind→aY,run_pure→bE,run_ite→RL
open Nat renaming lt_of_lt_of_le→bv,add_zero→ko,lt_or_ge→sD,mul_eq_zero→FX
open Array renaming toList_inj→bz,getElem?_eq_some_iff→eO,getElem?_setIfInBounds_ne→ib,getElem?_push→iq,toArray_toList→lC,all_eq_true_iff_forall_mem→rE,replicate→xG,setIfInBounds_comm→zO,getElem?_eq_none→BB,any_eq_true'→Ll,range→OW
open Option renaming isSome_iff_exists→bD,bind_some→kE,map_some→sw,bind_eq_some_iff→xK
open Go.Region renaming wanted→fe,ready→kC,binds→ui,noSelect_spec→wm,noSelect→RF
open Go.IntKind renaming signed→lN,bits→qz,max→sF,min→sK
open Go.Instr renaming sureAddr→pq,loadAt→EE,fill→Iz,makeFunc→IJ,extract→Lt,fieldAt→LA,indexAt→LB,sliceAt→LF,sliceBounds→MG,buildSlice→OB,sliceBound→OC,makeSlice→OY,storeAt→TT
open Go.RoundIn renaming mono→xz
open Go.Calls renaming mono→zk
open Go.Op renaming stringOp→zq,intArith→Li,unary→Wy
set_option linter.unusedVariables false
set_option linter.unusedSimpArgs false
namespace Go.Eng
open Go
universe u
theorem eqi {α:Sort u}{a b:α}(h:a=b):a=b:=h
abbrev Heap:=Array Obj
abbrev Env:=List Value
abbrev aj:=Exit->Env->List Deferred->Heap->Prop
structure Rest (w w':World):Prop where
 os:w'.os=w.os
 tape:w'.tape=w.tape
 output:w'.output=w.output
theorem Rest.refl (w:World):Rest w w:=⟨rfl,rfl,rfl⟩
theorem Rest.trans {a b c:World}(h:Rest a b)(k:Rest b c):Rest a c:=⟨k.os.trans h.os,k.tape.trans h.tape,k.output.trans h.output⟩
def fen (l:Option Nat):Fence:={Fence.wide with round:=l}
def ev (e:Env):Operand->Value
 | .tmp t=>e.getD t undef
 | .const v=>v
 | .global g=> .pointer (some ⟨g,0,none⟩)
 | .func f=> .func (.func f) #[] #[]
theorem dY (e:Env)(d:List Deferred):(Act.mk e.toArray d).eval=ev e:=by
 funext x;cases x<;>simp[Act.eval,ev]
def aU (e:Env)(dst:Option Tmp)(v:Value):Env:=match dst with|some t=>e.set t v|none=>e
theorem ay (e:Env)(d:List Deferred)(dst:Option Tmp)(v:Value):(Act.mk e.toArray d).put dst v=⟨(aU e dst v).toArray,d⟩:=by
 cases dst<;>simp[Act.put,aU]
def qA (P:Program)(f:FuncId):Bool:=match P.funcs[f]? with|some fn=> !(fn.name== "runtime.NumGoroutine")&&fn.body.isSome|none=>false
def gP (P:Program)(f:FuncId)(args:Array Value)(w:World)(K:Value->Heap->Prop):Prop:=
 Calls P f args w fun e w'=>∃v,e= .returned v/\K v w'.heap/\Rest w w'
def ak (P:Program)(f:FuncId)(args:Array Value)(h:Heap)(K:Value->Heap->Prop):Prop:=
 qA P f=true/\∀w:World,w.heap=h->gP P f args w K
theorem gP.mono {P:Program}{f:FuncId}{args:Array Value}{w:World}{K K':Value->Heap->Prop}(H:gP P f args w K)(hk:∀v h,K v h->K' v h):gP P f args w K':=
 zk H fun _ _ ⟨v,g,A,u⟩=>⟨v,g,hk _ _ A,u⟩
theorem ak.mono {P:Program}{f:FuncId}{args:Array Value}{h:Heap}{K K':Value->Heap->Prop}(H:ak P f args h K)(hk:∀v h',K v h'->K' v h'):ak P f args h K':=
 ⟨H.1,fun w g=>(H.2 w g).mono hk⟩
def dQ (P:Program)(w:World)(K:Value->Heap->Prop):Result Next->Prop
 | .ok (.value v) w'=>K v w'.heap/\Rest w w'
 | .ok .skip w'=>K undef w'.heap/\Rest w w'
 | .ok (.enter f args) w'=>Rest w w'/\gP P f args w' K
 | .ok (.round l f tmps asg body) w'=>Rest w w'/\RoundIn Fence.wide 0 P l f tmps asg body w' fun e w''=>∃v,e= .returned v/\K v w''.heap/\Rest w' w''
 |_=>False
def iX:Op->Bool| .defer _=>false|_=>true
def aI (P:Program)(o:Op)(ty:TypeId)(e:Env)(h:Heap)(K:Value->Heap->Prop):Prop:=
 iX o=true/\∀w:World,w.heap=h->dQ P w K ((execOp (ev e) {dst:=none,op:=o,type:=ty,pos:= "",after:= #[],guard:=none}).run P w)
theorem bH {P:Program}{o:Op}{ty:TypeId}{e:Env}{h:Heap}{K K':Value->Heap->Prop}(hk:∀v h',K v h'->K' v h')(H:aI P o ty e h K):aI P o ty e h K':=by
 refine⟨H.1,fun w C=> ?_⟩;have g:=H.2 w C;unfold dQ at *;split at g
 .exact⟨hk _ _ g.1,g.2⟩
 .exact⟨hk _ _ g.1,g.2⟩
 .exact⟨g.1,g.2.mono hk⟩
 .exact⟨g.1,g.2.mono fun e I ⟨v,u,B,A⟩=>⟨v,u,hk _ _ B,A⟩⟩
 .exact g
def mZ {α:Type}(o:Option α)(F:α->Prop):Prop:=match o with|some x=>F x|none=>False
def onV (o:Option Value)(K:Value->Heap->Prop)(h:Heap):Prop:=match o with|some x=>K x h|none=>False
theorem je {o:Option Value}{K:Value->Heap->Prop}{h:Heap}:onV o K h<->∃x,o=some x/\K x h:=by cases o<;>simp[onV]
def onC (o:Option (List Value))(K:Value->Heap->Prop)(h:Heap):Prop:=match o with|some cs=>K (.agg cs.toArray) h|none=>False
theorem oP {o:Option (List Value)}{K:Value->Heap->Prop}{h:Heap}:onC o K h<->∃cs,o=some cs/\K (.agg cs.toArray) h:=by cases o<;>simp[onC]
theorem fJ {α:Type}{o:Option α}{F:α->Prop}:mZ o F<->∃x,o=some x/\F x:=by cases o<;>simp[mZ]
def szT (P:Program)(t:TypeId):Nat:=((P.info? t).map (·.size)).getD 0
def dJ (P:Program)(t:TypeId):Option Value:=(P.info? t).bind (·.zero)
def zF (P:Program)(t:TypeId):Option Bool:=match P.underlying t with|some (.struct _)=>some true|some (.array _ _)=>some true|some _=>some false|none=>none
def jL (h:Heap)(p:Option Addr):Option Value:=
 match p with
 |some a=>match h[a.block]? with
  |some (.cells c _ _)=>if a.spot.isSome then none else c[a.off]?
  |_=>none
 |none=>none
def gm (h:Heap)(p:Option Addr)(n:Nat):Option (List Value):=
 match p with
 |some a=>match h[a.block]? with
  |some (.cells c _ _)=>if a.spot.isNone&&decide (a.off+n<=c.size)then some ((c.toList.drop a.off).take n)else none
  |_=>none
 |none=>none
def fU (P:Program)(t:TypeId)(v:Value)(h:Heap)(K:Value->Heap->Prop):Prop:=
 match v with
 | .pointer p=>match zF P t with
   |some true=>(P.info? t).isSome=true/\onC (gm h p (szT P t)) K h
   |some false=>onV (jL h p) K h
   |none=>False
 |_=>False
abbrev one (v:Value):Bool:=v.oneCell'
def splice (c:List Value)(off:Nat)(vs:List Value):List Value:=c.take off++vs++c.drop (off+vs.length)
def Qt (h:Heap)(b:Nat):Option (List Value×TypeId):=match h[b]? with|some (.cells c t (lo,hi))=>if lo=0/\hi=0 then some (c.toList,t)else none|_=>none
def nL (h:Heap)(b:Nat)(c:List Value)(t:TypeId):Heap:=h.setIfInBounds b (.cells c.toArray t)
def stK (r:Option (List Value×TypeId))(b off:Nat)(vs:List Value)(h:Heap)(K:Value->Heap->Prop):Prop:=
 match r with|some (c,ct)=>off+vs.length<=c.length/\K undef (nL h b (splice c off vs) ct)|none=>False
def kw (P:Program)(t:TypeId)(p v:Value)(h:Heap)(K:Value->Heap->Prop):Prop:=
 match p with
 | .pointer (some ⟨b,off,none⟩)=>(P.info? t).isSome=true/\v.cells.size=szT P t/\v.cells.toList.all one=true/\
  stK (Qt h b) b off v.cells.toList h K
 |_=>False
def Cm (a:Addr)(n:Nat):Addr:=if n=0 then a else⟨a.block,a.off+n,none⟩
theorem uj (a:Addr)(n:Nat):a.add n=Cm a n:=rfl
def jG (P:Program)(s:TypeId)(f:Nat):Option Nat:=match P.underlying s with|some (.struct fs)=>(match fs[f]? with|some fd=>if(P.info? fd.type).isSome&&decide (szT P fd.type≠0)then some fd.offset else none|none=>none)|_=>none
def lg (a:Option Addr)(n:Nat):Option Addr:=a.map (fun x=>Cm x n)
def wQ (P:Program)(t:TypeId)(x i:Value)(h:Heap)(K:Value->Heap->Prop):Prop:=
 match i with
 | .int _ n=>match P.underlying t,x with
   |some (.slice el),.slice a len _=>(P.info? el).isSome=true/\(0<=n/\n<len)/\a.isSome=true/\K (.pointer (lg a (n.toNat*szT P el))) h
   |some (.array len el),.pointer (some a)=>(P.info? el).isSome=true/\(0<=n/\n<len)/\K (.pointer (some (Cm a (n.toNat*szT P el)))) h
   |_,_=>False
 |_=>False
def InK (k:IntKind)(n:Int):Prop:=k.min<=n/\n<=k.max
def nP (op:BinOp)(k:IntKind)(x y:Int):Int:=
 let a:=BitVec.ofInt k.bits x;let b:=BitVec.ofInt k.bits y
 k.wrap (match op with| .and=>a&&&b| .or=>a|||b| .xor=>a^^^b|_=>a&&& ~~~b).toNat
def fI (op:BinOp)(k:IntKind)(x y:Int)(h:Heap)(K:Value->Heap->Prop):Prop:=
 match op with
 | .add=>InK k (x+y)/\K (.int k (x+y)) h
 | .sub=>InK k (x-y)/\K (.int k (x-y)) h
 | .mul=>InK k (x*y)/\K (.int k (x*y)) h
 | .quo=>y≠0/\InK k (x.tdiv y)/\K (.int k (x.tdiv y)) h
 | .rem=>y≠0/\K (.int k (x.tmod y)) h
 | .eql=>K (.bool (decide (x=y))) h
 | .neq=>K (.bool (!decide (x=y))) h
 | .lss=>K (.bool (decide (x<y))) h
 | .leq=>K (.bool (decide (x<=y))) h
 | .gtr=>K (.bool (decide (y<x))) h
 | .geq=>K (.bool (decide (y<=x))) h
 | .shl=>0<=y/\y<=k.bits/\InK k (x*2^y.toNat)/\K (.int k (x*2^y.toNat)) h
 | .shr=>0<=y/\y<=k.bits/\K (.int k (x/2^y.toNat)) h
 | .and=>K (.int k (nP .and k x y)) h
 | .or=>K (.int k (nP .or k x y)) h
 | .xor=>K (.int k (nP .xor k x y)) h
 | .andNot=>K (.int k (nP .andNot k x y)) h
def Qp (op:BinOp)(s t:ByteArray)(h:Heap)(K:Value->Heap->Prop)(F:Prop):Prop:=
 match op with
 | .add=>((s.size+t.size:Nat):Int)<=9223372036854775807/\K (.string (s++t)) h
 | .eql=>K (.bool (decide (s=t))) h
 | .neq=>K (.bool (!decide (s=t))) h
 |_=>F
def dF (op:BinOp)(x y:Value)(h:Heap)(K:Value->Heap->Prop)(F:Prop):Prop:=
 match x,y with
 | .int k a,.int k' b=>match op with
   | .shl=>fI .shl k a b h K
   | .shr=>fI .shr k a b h K
   |op=>k=k'/\fI op k a b h K
 | .string s,.string t=>Qp op s t h K F
 |_,_=>F
def qB (P:Program)(v:Value)(args:Array Value)(h:Heap)(K:Value->Heap->Prop)(F:Prop):Prop:=
 match v with
 | .func (.func f) first caps=>ak P f (first++args++caps) h K
 |_=>F
def lZ (b:Builtin)(vs:List Value)(d:Option TypeDesc)(h:Heap)(K:Value->Heap->Prop)(F:Prop):Prop:=
 match b,vs,d with
 | .len,[.slice _ n _],some (.slice _)=>K (.int .i64 n) h
 | .len,[.string s],some .string=>K (.int .i64 s.size) h
 | .min,[.int k x,.int _ y],_=>K (.int k (if y<x then y else x)) h
 | .max,[.int k x,.int _ y],_=>K (.int k (if x<y then y else x)) h
 |_,_,_=>F
def mF (P:Program)(t:TypeId)(i:Nat):Option (Nat×Nat):=
 match P.underlying t with|some (.struct fs)=>(match fs[i]? with|some fd=>if(P.info? fd.type).isSome then some (fd.offset,szT P fd.type)else none|none=>none)|_=>none
def jh (P:Program)(t:TypeId):Bool:=match P.underlying t with|some (.struct fs)=>fs.all fun fd=>(P.info? fd.type).isSome|_=>false
def jK (pl:Nat->Option (Nat×Nat)):List Value->List (Nat×Value)->Option (List Value)
 |cells,[]=>some cells
 |cells,(i,v)::rest=>match pl i with
  |some (off,size)=>if v.cells.size=size/\off+size<=cells.length then jK pl (splice cells off v.cells.toList) rest else none
  |none=>none
def NK (P:Program)(t:TypeId)(parts:List (Nat×Value))(h:Heap)(K:Value->Heap->Prop)(F:Prop):Prop:=
 match jh P t,dJ P t with
 |true,some z=>onC (jK (mF P t) z.cells.toList parts) K h
 |_,_=>F
def OU (s:ByteArray)(lo hi:Int)(h:Heap)(K:Value->Heap->Prop):Prop:=0<=lo/\lo<=hi/\hi<=s.size/\K (.string (s.extract lo.toNat hi.toNat)) h
def bnd (v:Option Value)(dflt:Nat):Option Int:=match v with|some (.int _ n)=>some n|none=>some dflt|_=>none
def vO (P:Program)(a:Option Addr)(cap:Nat)(el:TypeId)(lo hi mx:Int)(h:Heap)(K:Value->Heap->Prop):Prop:=
 (P.info? el).isSome=true/\0<=lo/\lo<=hi/\hi<=mx/\mx<=cap/\K (.slice (if mx=lo then a else lg a (lo.toNat*szT P el)) (hi-lo).toNat (mx-lo).toNat) h
def ru (P:Program)(x:Value)(d:Option TypeDesc)(lo hi mx:Option Value)(h:Heap)(K:Value->Heap->Prop)(F:Prop):Prop:=
 match x,d,mx with
 | .string s,some .string,none=>(match bnd lo 0,bnd hi s.size with|some l,some r=>OU s l r h K|_,_=>False)
 | .slice a len cap,some (.slice el),mx=>(match bnd lo 0,(match mx,hi with|some _,none=>none|_,hi=>bnd hi len),bnd mx cap with|some l,some r,some m=>vO P a cap el l r m h K|_,_,_=>False)
 | .pointer (some a),some (.array n el),none=>(match bnd lo 0,bnd hi n with|some l,some r=>vO P (some a) n el l r n h K|_,_=>False)
 |_,_,_=>F
def Ct (x i:Value)(d:Option TypeDesc)(h:Heap)(K:Value->Heap->Prop)(F:Prop):Prop:=
 match x,i,d with
 | .string s,.int _ n,some .string=>(0<=n/\n<s.size)/\K (.int .u8 (s.data.getD n.toNat 0).toNat) h
 |_,_,_=>F
def nT (P:Program)(t:TypeId)(cs:List Value)(off:Nat)(h:Heap)(K:Value->Heap->Prop):Prop:=
 match zF P t with
 |some true=>(P.info? t).isSome=true/\K (.agg ((cs.drop off).take (szT P t)).toArray) h
 |some false=>onV cs[off]? K h
 |none=>False
def BX (P:Program)(x:Value)(fd:Option (Nat×TypeId))(h:Heap)(K:Value->Heap->Prop)(F:Prop):Prop:=
 match x,fd with| .agg cs,some (off,t)=>nT P t cs.toList off h K|_,_=>F
def mH (P:Program)(t:TypeId)(i:Nat):Option (Nat×TypeId):=
 match P.underlying t with|some (.struct fs)=>(fs[i]?).map fun fd=>(fd.offset,fd.type)|_=>none
def DF (x:Value)(h:Heap)(K:Value->Heap->Prop)(F:Prop):Prop:=match x with| .int k n=>InK k (0-n)/\K (.int k (0-n)) h|_=>F
def pvW (P:Program)(o:Op)(e:Env)(h:Heap)(K:Value->Heap->Prop)(F:Prop):Prop:=
 match o with
 | .call {callee:= .builtin b,args,argTypes}=>lZ b (args.map (ev e)).toList ((argTypes[0]?).bind P.underlying) h K F
 | .build t parts=>NK P t (parts.map fun(i,x)=>(i,ev e x)).toList h K F
 | .slice t x lo hi mx=>ru P (ev e x) (P.underlying t) (lo.map (ev e)) (hi.map (ev e)) (mx.map (ev e)) h K F
 | .index t x i=>Ct (ev e x) (ev e i) (P.underlying t) h K F
 | .field t x f=>BX P (ev e x) (mH P t f) h K F
 | .unOp .neg _ x=>DF (ev e x) h K F
 |_=>F
def iA (P:Program)(t:TypeId):Nat:=((P.info? t).map (·.bytes)).getD 0
def Ey (P:Program)(d:Option TypeDesc)(n:Nat)(parts:List (Nat×Value))(h:Heap)(K:Value->Heap->Prop)(F:Prop):Prop:=
 match d with
 |some (.slice el)=>(match dJ P el with
  |some z=>z.cells.size=szT P el/\0<szT P el/\n*szT P el<=16777216/\
   mZ (jK (fun i=>some (i*szT P el,szT P el)) (aZ n z.cells.toList).flatten parts) (fun cs=>K (.slice (some ⟨h.size,0,none⟩) n n) (h.push (.cells cs.toArray el)))
  |none=>F)
 |_=>F
def FV (P:Program)(d:Option TypeDesc)(l c:Value)(h:Heap)(K:Value->Heap->Prop)(F:Prop):Prop:=
 match d,l,c with
 |some (.slice el),.int _ l,.int _ c=>(match dJ P el with
  |some z=>z.cells.size=szT P el/\0<szT P el/\0<=l/\l<=c/\c*iA P el<=281474976710656/\c<=9223372036854775807/\
   K (.slice (some ⟨h.size,0,none⟩) l.toNat c.toNat) (h.push (.cells (aZ c.toNat z.cells.toList).flatten.toArray el))
  |none=>F)
 |_,_,_=>F
def zH (P:Program)(o:Op)(ty:TypeId)(e:Env)(h:Heap)(K:Value->Heap->Prop):Prop:=
 match o with
 | .buildSlice t n parts=>Ey P (P.underlying t) n (parts.map fun(i,x)=>(i,ev e x)).toList h K (aI P o ty e h K)
 | .makeSlice t l c=>FV P (P.underlying t) (ev e l) (ev e c) h K (aI P o ty e h K)
 | .makeMap _ none=>K (.map (some h.size)) (h.push (.map #[] 0))
 |_=>aI P o ty e h K
def opW (P:Program)(o:Op)(ty:TypeId)(e:Env)(h:Heap)(K:Value->Heap->Prop):Prop:=
 match o with
 | .move x=>K (ev e x) h
 | .assign x=>K (ev e x) h
 | .pick c a b=>match ev e c with| .bool t=>K (if t then ev e a else ev e b) h|_=>False
 | .alloc t=>mZ (dJ P t) (fun z=>K (.pointer (some ⟨h.size,0,none⟩)) (h.push (.cells z.cells t)))
 | .box t x=>K (.pointer (some ⟨h.size,0,none⟩)) (h.push (.cells (ev e x).cells t))
 | .load t x=>fU P t (ev e x) h K
 | .store t a x=>kw P t (ev e a) (ev e x) h K
 | .fieldAddr s x f=>match ev e x with
   | .pointer (some a)=>a.spot=none/\mZ (jG P s f) (fun off=>K (.pointer (some (Cm a off))) h)
   |_=>False
 | .indexAddr t x i=>wQ P t (ev e x) (ev e i) h K
 | .nilCheck x=>match ev e x with| .pointer (some a)=>K (.pointer (some a)) h|_=>aI P o ty e h K
 | .binOp op _ x y _=>dF op (ev e x) (ev e y) h K (aI P o ty e h K)
 | .unOp .not _ x=>match ev e x with| .bool b=>K (.bool (!b)) h|_=>False
 | .convert s d x=>match ev e x,P.underlying d,P.underlying s with
   | .int _ n,some (.int k),some (.int _)=>InK k n/\K (.int k n) h
   |_,_,_=>aI P o ty e h K
 | .extract x i=>match ev e x with
   | .tuple vs=>onV vs[i]? K h
   |_=>False
 | .makeFunc fn first caps=>K (.func fn (first.map (ev e)) (caps.map (ev e))) h
 | .call {callee:= .value f,args, ..}=>qB P (ev e f) (args.map (ev e)) h K (aI P o ty e h K)
 |o=>pvW P o e h K (zH P o ty e h K)
def au (v:Value)(F:Bool->Prop)(U:Prop):Prop:=
 match v with
 | .bool b=>(b=true->F true)/\(b=false->F false)
 | .tuple _=>U
 |_=>False
def fQ (all:List Oper)(j:Nat):Option Tmp:=(all[j]?).bind (·.dst)
def ax (g:Option (Nat×Bool))(all:List Oper)(e:Env)(A B:Env->Prop):Prop:=
 match g with
 |none=>A e
 |some (j,want)=>match fQ all j with
  |none=>B e
  |some t=>au (e.getD t undef) (fun b=>if b=want then A (e.set t (.bool b))else B (e.set t (.bool b))) (B e)
def KS (x:Operand)(e:Env)(X Y:Env->Prop):Prop:=
 match x with
 | .tmp t=>au (e.getD t undef) (fun b=>if b then X (e.set t (.bool true))else Y (e.set t (.bool false))) False
 | .const (.bool true)=>X e
 | .const (.bool false)=>Y e
 |_=>False
def iC (n:Env->List Deferred->Heap->Prop)(k:aj):aj:=fun x e d h=>match x with| .normal=>n e d h|x=>k x e d h
def iK (i:Nat)(k:aj):aj:=fun x e d h=>match x with| .exit j=>if j=i then k .normal e d h else k (.exit j) e d h|x=>k x e d h
def dN (P:Program)(all:List Oper):List Oper->aj->Env->List Deferred->Heap->Prop
 |[],k,e,d,h=>k .normal e d h
 |o::rest,k,e,d,h=>ax o.guard all e (fun e=>opW P o.op o.type e h (fun v h'=>dN P all rest k (aU e o.dst v) d h')) (fun e=>dN P all rest k (aU e o.dst undef) d h)
def WP (l:Option Nat)(P:Program)(c:Code)(k:aj)(e:Env)(d:List Deferred)(h:Heap):Prop:=
 ∀w:World,w.heap=h->c.wpIn (fen l) 0 P (fun x a w'=>k x a.tmps.toList a.defers w'.heap/\Rest w w') ⟨e.toArray,d⟩ w
def exec (l:Option Nat)(P:Program):Code->aj->Env->List Deferred->Heap->Prop
 | .skip,k,e,d,h=>k .normal e d h
 | .seq a b,k,e,d,h=>exec l P a (iC (exec l P b k) k) e d h
 | .cond c x y,k,e,d,h=>KS c e (fun e=>exec l P x k e d h) (fun e=>exec l P y k e d h)
 | .block i c,k,e,d,h=>exec l P c (iK i k) e d h
 | .region _ ops false,k,e,d,h=>dN P ops.toList ops.toList k e d h
 | .exit i,k,e,d,h=>k (.exit i) e d h
 | .ret,k,e,d,h=>k .ret e d h
 | .label _,k,e,d,h=>k .normal e d h
 | .goto i,k,e,d,h=>k (.goto i) e d h
 |c,k,e,d,h=>WP l P c k e d h
section sound
variable {P:Program}{ty:TypeId}{e:Env}{h:Heap}{K:Value->Heap->Prop}
theorem az {o:Op}(hd:iX o=true)(v:Value)(h':Heap)(hk:K v h')
 (H:∀w:World,w.heap=h->∃w',(execOp (ev e) {dst:=none,op:=o,type:=ty,pos:= "",after:= #[],guard:=none}).run P w= .ok (.value v) w'/\w'.heap=h'/\Rest w w'):aI P o ty e h K:=by
 refine⟨hd,fun w B=> ?_⟩;obtain⟨w',g,u,A⟩:=H w B;rw[g];exact⟨u▸hk,A⟩
theorem aK {o:Op}(hd:iX o=true)(v:Value)(hk:K v h)
 (H:∀w:World,w.heap=h->(execOp (ev e) {dst:=none,op:=o,type:=ty,pos:= "",after:= #[],guard:=none}).run P w= .ok (.value v) w):aI P o ty e h K:=
 az hd v h hk fun w g=>⟨w,H w g,g,Rest.refl w⟩
theorem jI {k:IntKind}{n:Int}(h:InK k n):k.wrap n=n:=by
 obtain⟨g,u⟩:=h;cases k<;>simp[IntKind.wrap,sK,sF,lN,qz]at * <;>omega
theorem vK {t:TypeId}{b:Bool}(h:zF P t=some b)(w:World):(isAgg t).run P w= .ok b w:=by
 unfold zF at h;unfold isAgg;cases hu:P.underlying t with
 |none=>simp[hu]at h
 |some d=>
  rw[aY,run_underlying hu w];cases d<;>simp_all
theorem Co {w:World}{a:Addr}{x:Value}(h:jL w.heap (some a)=some x):w.cell? a=some x:=by
 unfold jL at h;unfold World.cell?;exact h
theorem og {t:TypeId}{v:Value}(H:fU P t v h K):∃x,K x h/\∀w:World,w.heap=h->(EE t v).run P w= .ok x w:=by
 unfold fU at H;split at H
 case h_2=>exact H.elim
 rename_i p;cases p with
 |none=>split at H<;>simp[gm,jL,onV,onC]at H
 |some a=>
 split at H
 .rename_i u;obtain⟨C,H⟩:=H;rw[oP]at H;obtain⟨cs,g,I⟩:=H;refine⟨_,I,fun w N=> ?_⟩;subst N;obtain⟨i,C⟩:=bD.1 C;have V:(loadCells a cs.length).run P w= .ok cs.toArray w:=by
   refine run_loadCells_list (P:=P) w a cs (fun j x B=> ?_);obtain⟨b,o,Z⟩:=a;unfold gm at g;cases hb:w.heap[b]? with
   |none=>simp[hb]at g
   |some ob=>
    cases ob with
    |cells c ct fr=>
     simp only[hb]at g;split at g
     .rename_i A;simp only[aF,Option.isNone_iff_eq_none,decide_eq_true_eq]at A;obtain⟨J,O⟩:=A;cases g;subst J;rw[Addr.add_mid];unfold World.cell?;simp only[hb];have U:j<szT P t:=by
       have:=(List.getElem?_eq_some_iff.1 B).1;simp at this;omega
      rw[eD,if_pos U,kL]at B;simpa using B
     .cases g
    |_=>simp[hb]at g
  have L:cs.length=i.size:=by
   have:szT P t=i.size:=by simp[szT,C]
   unfold gm at g;split at g<;>try (cases g;done)
   split at g<;>try (cases g;done)
   split at g
   .rename_i A;simp only[aF,decide_eq_true_eq]at A;cases g;have W:=A.2;simp;omega
   .cases g
  simp[EE,pq,loadVar,aY,vK u,sizeOf,typeInfo,C,<-L,V]
 .rename_i u;rw[je]at H;obtain⟨x,B,I⟩:=H;refine⟨x,I,fun w N=> ?_⟩;subst N;have:=Co B;simp[EE,pq,loadVar,aY,vK u,this]
 .exact H.elim
theorem KF {t:TypeId}{p v:Value}(H:kw P t p v h K):
 ∃h',K undef h'/\∀w:World,w.heap=h->∃w',(TT t p v).run P w= .ok () w'/\w'.heap=h'/\Rest w w':=by
 unfold kw at H;split at H
 case h_2=>exact H.elim
 rename_i b I;obtain⟨J,N,B,H⟩:=H;unfold stK at H;split at H
 case h_2=>exact H.elim
 rename_i c ct g;obtain⟨A,W⟩:=H;refine⟨_,W,fun w hw=> ?_⟩;subst hw;obtain⟨i,J⟩:=bD.1 J;have u:w.heap[b]? =some (.cells c.toArray ct (0,0)):=by
  unfold Qt at g;split at g
  .rename_i ca _ lo O u;split at g
   .rename_i hz;obtain⟨rfl,rfl⟩:=hz;cases g;simpa using u
   .cases g
  .cases g
 have C:=run_storeCells_at P b I ct v.cells.toList 0 c.toArray w u (by simpa using A) (fun x hx=>bJ.1 B x hx);refine⟨w.setRow b (splice c I v.cells.toList).toArray,?_,?_,?_⟩
 .have hs:v.cells.size=i.size:=by simpa[szT,J]using N
  simp only[ko]at C;simp[TT,pq,storeVar,sizeOf,typeInfo,J,hs,C,splice]
 .have Z:b<w.heap.size:=(eO.1 u).1;have hv:=(eO.1 u).2;unfold nL World.setRow;apply Array.ext
  .simp
  .intro j U V;rw[Array.getElem_modify,Array.getElem_setIfInBounds];split
   .rename_i L;subst L;simp[hv]
   .rfl
 .exact⟨rfl,rfl,rfl⟩
theorem wO {t:TypeId}{x i:Value}(H:wQ P t x i h K):∃v,K v h/\∀w:World,(LB t x i).run P w= .ok v w:=by
 unfold wQ at H;split at H
 case h_2=>exact H.elim
 rename_i k n;split at H
 .rename_i el a len cap B;obtain⟨g,A,I,u⟩:=H;obtain⟨a,rfl⟩:=bD.1 I;obtain⟨C,g⟩:=bD.1 g;refine⟨_,u,fun w=> ?_⟩;simp[LB,asIntOf,run_underlying B,A,sizeOf,typeInfo,g,lg,szT,uj]
 .rename_i len el a B;obtain⟨g,A,u⟩:=H;obtain⟨C,g⟩:=bD.1 g;refine⟨_,u,fun w=> ?_⟩;simp[LB,asIntOf,run_underlying B,pq,A,sizeOf,typeInfo,g,szT,uj]
 .exact H.elim
theorem qi (s t:ByteArray):(s.toList==t.toList)=decide (s=t):=by
 have u:∀x y:ByteArray,x.toList=y.toList->x=y:=by
  intro x y g;have:x.data=y.data:=by
   have A:x.toList=x.data.toList:=ByteArray.toList_eq x;have B:y.toList=y.data.toList:=ByteArray.toList_eq y;rw[A,B]at g;exact bz.1 g
  cases x;cases y;simp_all
 by_cases h:s=t
 .subst h;simp
 .have:s.toList≠t.toList:=fun C=>h (u _ _ C)
  simp[h,this]
theorem CO {op:BinOp}{k:IntKind}{x y:Int}(H:fI op k x y h K)(ho:op≠.shl)(ho':op≠.shr):∃v,K v h/\∀(t:TypeId) (w:World),(binOp op t (.int k x) (.int k y)).run P w= .ok v w:=by
 cases op
 case shl=>exact absurd rfl ho
 case shr=>exact absurd rfl ho'
 case add=>exact⟨_,H.2,fun t w=>by simp[binOp,Li,jI H.1]⟩
 case sub=>exact⟨_,H.2,fun t w=>by simp[binOp,Li,jI H.1]⟩
 case mul=>exact⟨_,H.2,fun t w=>by simp[binOp,Li,jI H.1]⟩
 case quo=>exact⟨_,H.2.2,fun t w=>by simp[binOp,Op.intDiv,H.1,jI H.2.1]⟩
 case rem=>exact⟨_,H.2,fun t w=>by simp[binOp,Op.intDiv,H.1]⟩
 all_goals exact⟨_,H,fun t w=>by simp[binOp,Op.intCmp,Op.intBits,nP]<;>(first|rfl|(by_cases g:x=y<;>simp[g]))⟩
theorem rG {op:BinOp}{k k':IntKind}{x y:Int}(H:fI op k x y h K)(ho:op= .shl\/op= .shr):∃v,K v h/\∀(t:TypeId) (w:World),(binOp op t (.int k x) (.int k' y)).run P w= .ok v w:=by
 rcases ho with rfl|rfl
 .obtain⟨A,B,C,g⟩:=H;refine⟨_,g,fun t w=> ?_⟩;have u:min y.toNat k.bits=y.toNat:=by omega
  simp[binOp,Op.shift,show¬y<0 by omega,u,jI C]
 .obtain⟨A,B,g⟩:=H;refine⟨_,g,fun t w=> ?_⟩;have u:min y.toNat k.bits=y.toNat:=by omega
  have I:(0:Int)<=2^y.toNat:=Int.le_of_lt (Int.pow_pos (by omega));simp[binOp,Op.shift,show¬y<0 by omega,u,Int.fdiv_eq_ediv_of_nonneg x I]
theorem Pb {op:BinOp}{t:TypeId}{x y:Operand}{yt:TypeId}{F:Prop}(H:dF op (ev e x) (ev e y) h K F)(hF:F->aI P (.binOp op t x y yt) ty e h K):
 aI P (.binOp op t x y yt) ty e h K:=by
 unfold dF at H;split at H
 .rename_i k a k' b u A;have g:∀w,(eqGuard op t x y (.int k a) (.int k' b)).run P w= .ok () w:=by
   intro w;unfold eqGuard;cases op<;>simp
  split at H
  .obtain⟨v,C,B⟩:=rG (P:=P) (k':=k') H (.inl rfl);exact aK rfl v C fun w I=>by simp[execOp,u,A,g,B]
  .obtain⟨v,C,B⟩:=rG (P:=P) (k':=k') H (.inr rfl);exact aK rfl v C fun w I=>by simp[execOp,u,A,g,B]
  .rename_i J N;obtain⟨rfl,H⟩:=H;obtain⟨v,C,B⟩:=CO (P:=P) H J N;exact aK rfl v C fun w I=>by simp[execOp,u,A,g,B]
 .rename_i s L u A;have g:∀w,(eqGuard op t x y (.string s) (.string L)).run P w= .ok () w:=by
   intro w;unfold eqGuard;cases op<;>simp
  unfold Qp at H;split at H
  .refine aK rfl _ H.2 fun w I=> ?_
   have:¬((s.size+L.size:Nat):Int)>IntKind.i64.max:=by
    have J:=H.1;have:IntKind.i64.max=9223372036854775807:=by decide
    omega
   simp only[execOp,u,A,aY,g,aN,binOp,zq,this,if_false,bE]
  .refine aK rfl _ H fun w I=> ?_
   simp only[execOp,u,A,aY,g,aN,binOp,zq,bE,qi]
  .refine aK rfl _ H fun w I=> ?_
   simp only[execOp,u,A,aY,g,aN,binOp,zq,bE,qi]
  .exact hF H
 .exact hF H
theorem CE {f:FuncId}{args:Array Value}(hb:qA P f=true)(w:World):(callFunc f args).run P w= .ok (.enter f args) w:=by
 unfold qA at hb;cases hf:P.funcs[f]? with
 |none=>simp[hf]at hb
 |some fn=>
  simp only[hf,aF,lh]at hb;have g:fn.body.isNone=false:=by cases hbd:fn.body<;>simp_all
  simp only[callFunc,aY,run_program,aN,hf,hb.1,g,eB,if_false,bE]
theorem Bw {f:Operand}{args:Array Operand}{ats:Array TypeId}{F:Prop}(H:qB P (ev e f) (args.map (ev e)) h K F)
 (hF:F->aI P (.call {callee:= .value f,args:=args,argTypes:=ats}) ty e h K):aI P (.call {callee:= .value f,args:=args,argTypes:=ats}) ty e h K:=by
 unfold qB at H;split at H
 .rename_i g first u A
  refine⟨rfl,fun w B=> ?_⟩;have:(execOp (ev e) {dst:=none,op:= .call {callee:= .value f,args:=args,argTypes:=ats},type:=ty,pos:= "",after:= #[],guard:=none}).run P w= .ok (.enter g (first++args.map (ev e)++u)) w:=by
   simp only[execOp,resolve,A,Deferred.ofValue,invoke,aY,bE,aN,CE H.1]
  rw[this];exact⟨Rest.refl w,H.2 w B⟩
 .exact hF H
end sound
section pv
variable {P:Program}{e:Env}{h:Heap}{K:Value->Heap->Prop}{F:Prop}
def runs (P:Program)(e:Env)(o:Op)(v:Value):Prop:=∀(ty:TypeId) (w:World),(execOp (ev e) {dst:=none,op:=o,type:=ty,pos:= "",after:= #[],guard:=none}).run P w= .ok (.value v) w
theorem Qu {b:Builtin}{args:Array Operand}{ats:Array TypeId}(H:lZ b (args.map (ev e)).toList ((ats[0]?).bind P.underlying) h K F):
 F\/∃v,K v h/\runs P e (.call {callee:= .builtin b,args,argTypes:=ats}) v:=by
 unfold lZ at H;split at H
 .rename_i a n c el u A;right;obtain⟨t,B,C⟩:=xK.1 A;have g:args.map (ev e)= #[.slice a n c]:=by apply bz.1;simpa using u
  refine⟨_,H,fun ty w=> ?_⟩;simp[execOp,resolve,invoke,builtin,Builtin.len_,g,B,run_underlying C,goInt]
 .rename_i s u A;right;obtain⟨t,B,C⟩:=xK.1 A;have g:args.map (ev e)= #[.string s]:=by apply bz.1;simpa using u
  refine⟨_,H,fun ty w=> ?_⟩;simp[execOp,resolve,invoke,builtin,Builtin.len_,g,B,run_underlying C,goInt]
 .rename_i J k x I y u;right;have g:args.map (ev e)= #[.int k x,.int I y]:=by apply bz.1;simpa using u
  refine⟨_,H,fun ty w=> ?_⟩;simp[execOp,resolve,invoke,builtin,Builtin.min_,g,Builtin.min2]
 .rename_i J k x I y u;right;have g:args.map (ev e)= #[.int k x,.int I y]:=by apply bz.1;simpa using u
  refine⟨_,H,fun ty w=> ?_⟩;simp[execOp,resolve,invoke,builtin,Builtin.max_,g,Builtin.max2]
 .exact .inl H
theorem Fu (vs:List Value):∀(off k:Nat) (cs:Array Value),off+k+vs.length<=cs.size->
 ((vs.zipIdx k).foldl (fun cs (p:Value×Nat)=>cs.setIfInBounds (off+p.2) p.1) cs)=(splice cs.toList (off+k) vs).toArray:=by
 induction vs with
 |nil=>intro off k cs _;simp[splice]
 |cons v vs ih=>
  intro off k cs g;simp only[List.zipIdx_cons,List.foldl_cons];have:=ih off (k+1) (cs.setIfInBounds (off+k) v) (by simp at g ⊢;omega);rw[this];congr 1;unfold splice;have B:(cs.setIfInBounds (off+k) v).toList=cs.toList.set (off+k) v:=by simp
  simp only[ed]at g;rw[B];apply pV;intro i;simp only[pE,vW,kD,List.length_set,Array.length_toList,eD,kL,rX,qp,ed];have u:min (off+(k+1)) cs.size=off+k+1:=by omega
  have A:min (off+k) cs.size=off+k:=by omega
  rw[u,A];by_cases c1:i<off+k
  .rw[if_pos (by omega),if_pos (by omega),if_pos c1,if_pos c1];simp[show¬off+k=i by omega]
  .by_cases c2:i=off+k
   .subst c2;simp;omega
   .rw[if_neg (by omega),if_neg c1];have:i-(off+k)=(i-(off+k+1))+1:=by omega
    rw[this];simp only[eP];rw[vW];by_cases c3:i-(off+k+1)<vs.length
    .simp[c3]
    .simp only[c3,if_false,kL];rw[if_neg (by omega)];congr 1;omega
theorem vL {pl:Nat->Option (Nat×Nat)}:∀(parts:List (Nat×Value)) (cells:Array Value) (r:List Value),jK pl cells.toList parts=some r->Iz pl cells parts=some r.toArray
 |[],cells,r,H=>by simp only[jK,Option.some.injEq]at H;subst H;simp[Iz]
 |(i,v)::rest,cells,r,H=>by
  simp only[jK]at H;split at H
  .rename_i g I A;split at H
   .rename_i L;obtain⟨B,J⟩:=L;have u:g+v.cells.size<=cells.size:=by simpa[B]using J
    have C:=Fu v.cells.toList g 0 cells (by simpa using u);simp only[ko]at C;have:Array.foldl (fun cs x=>cs.setIfInBounds (g+x.2) x.1) cells v.cells.zipIdx=(splice cells.toList g v.cells.toList).toArray:=by
     rw[<-C,<-Array.foldl_toList,Array.toList_zipIdx]
    have N:=vL rest (splice cells.toList g v.cells.toList).toArray r (by simpa using H);simp only[Iz,A];rw[if_neg (by simp[B];omega)];rw[<-N,<-this]
   .cases H
  .cases H
theorem sZ {α β:Type}(P:Program)(w:World)(f:α->Sem β)(g:α->β):∀(l:List α),(∀x∈l,(f x).run P w= .ok (g x) w)->(l.mapM f).run P w= .ok (l.map g) w
 |[],_=>by simp
 |x::xs,hl=>by
  have A:=sZ P w f g xs (fun y u=>hl y (List.mem_cons_of_mem _ u));rw[zL,aY,hl x (List.mem_cons_self ..)];simp only[aN,aY,A,bE,List.map_cons]
theorem Pg {t:TypeId}{parts:Array (Nat×Operand)}(H:NK P t (parts.map fun(i,x)=>(i,ev e x)).toList h K F):F\/∃v,K v h/\runs P e (.build t parts) v:=by
 unfold NK at H;split at H
 .rename_i z g C;right;rw[oP]at H;obtain⟨r,W,U⟩:=H;refine⟨_,U,fun ty w=> ?_⟩;unfold jh at g;split at g
  .rename_i A O;have N:(zeroValue t).run P w= .ok z w:=by
    unfold dJ at C;cases B:P.info? t with
    |none=>simp[B]at C
    |some i=>simp only[B,kE]at C;simp[zeroValue,typeInfo,B,C]
   have V:(A.mapM fun f=>(do pure (f.offset,<-sizeOf f.type):Sem (Nat×Nat))).run P w= .ok (A.map fun f=>(f.offset,szT P f.type)) w:=by
    have:A=A.toList.toArray:=by simp
    rw[this,MV,Sem.run_map,sZ P w _ (fun f=>(f.offset,szT P f.type))]
    .simp only[aN];congr 1;apply bz.1;simp
    .intro f I;have L:(P.info? f.type).isSome=true:=rE.1 g f (by simpa using I);obtain⟨i,B⟩:=bD.1 L;simp[sizeOf,typeInfo,B,szT]
   have J:(fun i=>(A.map fun f=>(f.offset,szT P f.type))[i]?)=mF P t:=by
    funext i;simp only[mF,O,Array.getElem?_map];cases I:A[i]? with
    |none=>rfl
    |some fd=>
     have L:(P.info? fd.type).isSome=true:=rE.1 g fd (Array.mem_of_getElem? I);simp[L]
   have u:=vL _ _ _ W;simp only[execOp,Instr.build,aY,N,aN,run_underlying O];rw[V];simp only[aN];rw[J,u];simp
  .cases g
 .exact .inl H
theorem kP {v:Value}{n:Int}{d:Nat}(hb:bnd (some v) d=some n)(y:Nat)(code:BoundsCode)(h0:0<=n)(h1:n<=y)(w:World):(OC v y code).run P w= .ok n.toNat w:=by
 cases v<;>simp[bnd]at hb;subst hb;simp[OC,asIntOf,h0,h1]
theorem oF {isSlice:Bool}{len cap:Nat}{lo hi mx:Option Value}{l r m:Int}(hl:bnd lo 0=some l)(hr:(match mx,hi with|some _,none=>none|_,hi=>bnd hi len)=some r)(hm:bnd mx cap=some m)
 (h0:0<=l) (h1:l<=r) (h2:r<=m) (h3:m<=cap) (w:World):(MG isSlice len cap lo hi mx).run P w= .ok (l.toNat,r.toNat,m.toNat) w:=by
 have A:(r:Int)<=(m.toNat:Int):=by omega
 have g:(l:Int)<=(r.toNat:Int):=by omega
 unfold MG;cases mx with
 |none=>
  simp only[bnd,Option.some.injEq]at hm;subst hm;cases hi with
  |none=>
   simp only[bnd,Option.some.injEq]at hr;subst hr;cases lo with
   |none=>simp only[bnd,Option.some.injEq]at hl;subst hl;simp
   |some v=>simp[kP (P:=P) hl len _ h0 h1 w]
  |some u=>
   cases lo with
   |none=>simp only[bnd,Option.some.injEq]at hl;subst hl;simp[kP (P:=P) hr cap _ (by omega) h2 w]
   |some v=>simp[kP (P:=P) hr cap _ (by omega) h2 w,kP (P:=P) hl r.toNat _ h0 g w]
 |some x=>
  cases hi with
  |none=>cases hr
  |some u=>
   cases lo with
   |none=>simp only[bnd,Option.some.injEq]at hl;subst hl;simp[kP (P:=P) hm cap _ (by omega) h3 w,kP (P:=P) hr m.toNat _ (by omega) A w]
   |some v=>simp[kP (P:=P) hm cap _ (by omega) h3 w,kP (P:=P) hr m.toNat _ (by omega) A w,kP (P:=P) hl r.toNat _ h0 g w]
theorem vP {a:Option Addr}{cap:Nat}{el:TypeId}{l r m:Int}(H:vO P a cap el l r m h K):
 K (.slice (if m.toNat=l.toNat then a else a.map (·.add (l.toNat*szT P el))) (r.toNat-l.toNat) (m.toNat-l.toNat)) h/\(P.info? el).isSome=true/\0<=l/\l<=r/\r<=m/\m<=cap:=by
 obtain⟨L,B,C,I,J,N⟩:=H;refine⟨?_,L,B,C,I,J⟩;have g:(m.toNat=l.toNat)=(m=l):=propext (by omega);have u:r.toNat-l.toNat=(r-l).toNat:=by omega
 have A:m.toNat-l.toNat=(m-l).toNat:=by omega
 rw[u,A];simp only[g];exact N
theorem QN {t:TypeId}{x:Operand}{lo hi mx:Option Operand}(H:ru P (ev e x) (P.underlying t) (lo.map (ev e)) (hi.map (ev e)) (mx.map (ev e)) h K F):
 F\/∃v,K v h/\runs P e (.slice t x lo hi mx) v:=by
 unfold ru at H;split at H
 .rename_i s O N g;right;split at H
  .rename_i l r J L;obtain⟨u,A,B,I⟩:=H;refine⟨_,I,fun ty w=> ?_⟩;have C:=oF (P:=P) (isSlice:=false) (len:=s.size) (cap:=s.size) (mx:=none) J (by simpa using L) rfl u A B (by omega) w;simp only[execOp,LF,Instr.slice,O,g,aY,run_underlying N,aN];simp[C]
  .exact H.elim
 .rename_i a len cap el O N;right;split at H
  .rename_i l r m J L W;obtain⟨I,hi,u,A,B,V⟩:=vP H;refine⟨_,I,fun ty w=> ?_⟩;have C:=oF (P:=P) (isSlice:=true) (len:=len) (cap:=cap) J L W u A B V w;obtain⟨U,hi⟩:=bD.1 hi;simp only[execOp,LF,Instr.slice,O,aY,run_underlying N,aN,C];simp[sizeOf,typeInfo,hi,szT]
  .exact H.elim
 .rename_i a n el O N g;right;split at H
  .rename_i l r J L;obtain⟨I,hi,u,A,B,V⟩:=vP H;refine⟨_,I,fun ty w=> ?_⟩;have C:=oF (P:=P) (isSlice:=false) (len:=n) (cap:=n) (mx:=none) J (by simpa using L) rfl u A B (by omega) w;obtain⟨U,hi⟩:=bD.1 hi;simp only[execOp,LF,O,g,pq,aY,run_underlying N,aN,bE,C];simp only[sizeOf,typeInfo,aY,run_program,aN,hi,bE,szT,sw,Option.getD_some,Int.toNat_natCast];congr 3;split<;>simp_all
  .exact H.elim
 .exact .inl H
theorem RX {t:TypeId}{x i:Operand}(H:Ct (ev e x) (ev e i) (P.underlying t) h K F):F\/∃v,K v h/\runs P e (.index t x i) v:=by
 unfold Ct at H;split at H
 .rename_i s k n L C J;right;obtain⟨⟨u,N⟩,I⟩:=H;refine⟨_,I,fun ty w=> ?_⟩;have g:n.toNat<s.size:=by omega
  have B:s[n.toNat]? =some s[n.toNat]:=by simp[g]
  have A:s.data.getD n.toNat 0=s[n.toNat]:=by
   rw[Array.getD_eq_getD_getElem?,Array.getElem?_eq_getElem g];rfl
  simp[execOp,Instr.index,L,C,asIntOf,run_underlying J,u,B,A]
 .exact .inl H
theorem Ar {t:TypeId}{cs:Array Value}{off:Nat}(H:nT P t cs.toList off h K):∃v,K v h/\∀w:World,(part t cs off).run P w= .ok v w:=by
 unfold nT at H;split at H
 .rename_i u;obtain⟨A,B⟩:=H;obtain⟨g,A⟩:=bD.1 A;refine⟨_,B,fun w=> ?_⟩;have:cs.extract off (off+g.size)=((cs.toList.drop off).take g.size).toArray:=by
   apply bz.1;simp[Array.toList_extract]
  simp[part,vK u,sizeOf,typeInfo,A,szT,this]
 .rename_i u;rw[je]at H;obtain⟨v,C,B⟩:=H;refine⟨v,B,fun w=> ?_⟩;have:cs[off]? =some v:=by simpa using C
  simp[part,vK u,this]
 .exact H.elim
theorem Qo {t:TypeId}{x:Operand}{f:Nat}(H:BX P (ev e x) (mH P t f) h K F):F\/∃v,K v h/\runs P e (.field t x f) v:=by
 unfold BX at H;split at H
 .rename_i cs N u L g;right;obtain⟨v,C,I⟩:=Ar H;refine⟨v,C,fun ty w=> ?_⟩;unfold mH at g;split at g
  .rename_i U J;obtain⟨O,A,B⟩:=Option.map_eq_some_iff.1 g;cases B;simp[execOp,Instr.field,L,run_underlying J,A,asAgg,I]
  .cases g
 .exact .inl H
theorem Qx {t:TypeId}{x:Operand}(H:DF (ev e x) h K F):F\/∃v,K v h/\runs P e (.unOp .neg t x) v:=by
 unfold DF at H;split at H
 .rename_i k n g;right;exact⟨_,H.2,fun ty w=>by
   have:=jI H.1;simp only[execOp,g,Wy,Li,this,aY,bE,aN]⟩
 .exact .inl H
theorem wU {o:Op}(H:pvW P o e h K F):F\/(iX o=true/\∃v,K v h/\runs P e o v):=by
 unfold pvW at H;split at H
 .exact(Qu H).imp id fun h=>⟨rfl,h⟩
 .exact(Pg H).imp id fun h=>⟨rfl,h⟩
 .exact(QN H).imp id fun h=>⟨rfl,h⟩
 .exact(RX H).imp id fun h=>⟨rfl,h⟩
 .exact(Qo H).imp id fun h=>⟨rfl,h⟩
 .exact(Qx H).imp id fun h=>⟨rfl,h⟩
 .exact .inl H
theorem pW (z:Array Value)(n:Nat):((OW (n*z.size)).map fun i=>z[i % z.size]!)=(aZ n z.toList).flatten.toArray:=by
 apply bz.1;simp only[Array.toList_map,Array.toList_range];induction n with
 |zero=>simp
 |succ n ih=>
  rw[List.replicate_succ',List.flatten_concat,<-ih,Nat.succ_mul,List.range_add,List.map_append];congr 1;simp only[List.map_map];apply List.ext_getElem
  .simp
  .intro i g u;simp only[List.length_map,List.length_range]at g;simp[Nat.add_mod,Nat.mod_eq_of_lt g,g]
theorem K8 {o:Op}{ty:TypeId}(H:zH P o ty e h K):aI P o ty e h K:=by
 unfold zH at H;split at H
 .rename_i t n parts;unfold Ey at H;split at H
  .rename_i el N;split at H
   .rename_i z B;obtain⟨I,U,hn,H⟩:=H;rw[fJ]at H;obtain⟨cs,L,W⟩:=H;refine az rfl _ _ W fun w O=> ?_
    subst O;refine⟨{w with heap:=w.heap.push (.cells cs.toArray el)},?_,rfl,rfl,rfl,rfl⟩;unfold dJ at B;cases hi:P.info? el with
    |none=>simp[hi]at B
    |some i=>
     simp only[hi,kE]at B;have J:szT P el=i.size:=by simp[szT,hi]
     rw[J]at I U hn L;have g:Iz (fun j=>some (j*i.size,i.size)) (aZ n z.cells.toList).flatten.toArray (parts.map fun(i,x)=>(i,ev e x)).toList=some cs.toArray:=
      vL _ _ _ (by simpa only[List.toList_toArray]using L)
     by_cases u:n*i.size=0
     .have:n=0:=by rcases FX.1 u with h|h<;>omega
      subst this;simp only[List.replicate_zero,List.flatten_nil]at g;simp only[execOp,OB,aY,run_underlying N,aN,sizeOf,typeInfo,run_program,hi,bE,Nat.zero_mul,show OW 0= #[]from rfl,Array.map_empty,if_true,RL];rw[if_neg (by omega)];simp only[g,aY,newRow,run_newObj,aN,bE]
      first|done|simp
     .have A:=pW z.cells n;rw[I]at A;simp only[execOp,OB,aY,run_underlying N,aN,sizeOf,typeInfo,run_program,hi,bE,if_neg (show¬n*i.size>2^24 by omega),if_neg u,zeroValue,B,RL,I,A];simp only[g,aY,newRow,run_newObj,aN,bE]
   .exact H
  .exact H
 .rename_i t lo co;unfold FV at H;split at H
  .rename_i el kl l kc c N hl Z;split at H
   .rename_i z B;obtain⟨I,U,hl0,hlc,hb,h63,W⟩:=H;refine az rfl _ _ W fun w O=> ?_
    subst O;refine⟨{w with heap:=w.heap.push (.cells (aZ c.toNat z.cells.toList).flatten.toArray el)},?_,rfl,rfl,rfl,rfl⟩;unfold dJ at B;cases hi:P.info? el with
    |none=>simp[hi]at B
    |some i=>
     simp only[hi,kE]at B;have J:szT P el=i.size:=by simp[szT,hi]
     have V:iA P el=i.bytes:=by simp[iA,hi]
     rw[J]at I U;rw[V]at hb;have wl:IntKind.i64.wrap l=l:=IntWalk.i64_in l ⟨by omega,by omega⟩;have wc:IntKind.i64.wrap c=c:=IntWalk.i64_in c ⟨by omega,by omega⟩;have hbb:¬((i.bytes:Int)*c>2^48):=by
      rw[Int.mul_comm];have:(2:Int)^48=281474976710656:=by decide
      omega
     have C:¬(281474976710656<(i.bytes:Int)*c):=by rw[Int.mul_comm];omega
     have A:=pW z.cells c.toNat;rw[I]at A;by_cases u:c.toNat*i.size=0
     .have:c.toNat=0:=by rcases FX.1 u with h|h<;>omega
      simp[execOp,OY,run_underlying N,hl,Z,asInt,asIntOf,typeInfo,hi,wl,wc,C,show¬c<0 by omega,show¬l<0 by omega,show¬c<l by omega,sizeOf,this,newRow,show OW 0= #[]from rfl]
     .simp only[execOp,OY,run_underlying N,hl,Z,asInt,asIntOf,aY,bE,aN,typeInfo,run_program,hi,wl,wc,sizeOf,zeroValue,B,RL,run_askRoom,if_neg u,I,A,newRow,run_newObj];rw[if_neg (by simp[C,show¬c<0 by omega,show¬l<0 by omega,show¬c<l by omega])];rfl
   .exact H
  .exact H
 .refine az rfl _ _ H fun w O=> ?_
  subst O;exact⟨{w with heap:=w.heap.push (.map #[] 0)},by simp[execOp,Instr.makeMap],rfl,rfl,rfl,rfl⟩
 .exact H
end pv
section sound
variable {P:Program}{ty:TypeId}{e:Env}{h:Heap}{K:Value->Heap->Prop}
theorem aM {o:Op}(H:opW P o ty e h K):aI P o ty e h K:=by
 have I:∀{o:Op},pvW P o e h K (zH P o ty e h K)->aI P o ty e h K:=fun H=>by
  rcases wU H with L|⟨hd,v,u,B⟩
  .exact K8 L
  .exact aK hd v u fun w _=>B ty w
 cases o
 case move x=>exact aK rfl _ H fun w g=>rfl
 case assign x=>exact aK rfl _ H fun w g=>rfl
 case pick c a b=>
  simp only[opW]at H;split at H
  .rename_i t ht;exact aK rfl _ H fun w g=>by simp[execOp,ht,asBool]
  .exact H.elim
 case alloc t=>
  simp only[opW,fJ]at H;obtain⟨z,N,u⟩:=H;refine az rfl _ _ u fun w g=> ?_
  subst g;unfold dJ at N;cases J:P.info? t with
  |none=>simp[J]at N
  |some i=>
   simp only[J,kE]at N;exact⟨{w with heap:=w.heap.push (.cells z.cells t)},by simp[execOp,Instr.alloc,zeroValue,typeInfo,J,N,newVar,newRow],rfl,rfl,rfl,rfl⟩
 case box t x=>
  refine az rfl _ _ H fun w g=> ?_
  subst g;exact⟨{w with heap:=w.heap.push (.cells (ev e x).cells t)},by simp[execOp,Instr.box,newVar,newRow],rfl,rfl,rfl,rfl⟩
 case load t x=>
  obtain⟨v,u,B⟩:=og (K:=K) H;exact aK rfl v u fun w g=>by simp[execOp,B w g]
 case store t a x=>
  obtain⟨h',u,B⟩:=KF (K:=K) H;refine⟨rfl,fun w g=> ?_⟩;obtain⟨w',L,h2,h3⟩:=B w g;have:(execOp (ev e) {dst:=none,op:= .store t a x,type:=ty,pos:= "",after:= #[],guard:=none}).run P w= .ok .skip w':=by simp[execOp,L]
  rw[this];exact⟨h2▸u,h3⟩
 case fieldAddr s x f=>
  simp only[opW]at H;split at H
  .rename_i a U;obtain⟨hsp,H⟩:=H;rw[fJ]at H;obtain⟨off,A,u⟩:=H;unfold jG at A;split at A
   .rename_i fs hu;split at A
    .rename_i fd V;split at A
     .rename_i C;cases A;simp only[aF,decide_eq_true_eq]at C;obtain⟨inf,J⟩:=bD.1 C.1;have Z:inf.size≠0:=by simpa[szT,J]using C.2
      refine aK rfl _ u fun w g=> ?_
      simp[execOp,U,LA,run_underlying hu,V,pq,fieldPlace,uj,sizeOf,typeInfo,J,Z]
     .cases A
    .cases A
   .cases A
  .exact H.elim
 case indexAddr t x i=>
  obtain⟨v,u,B⟩:=wO (K:=K) H;exact aK rfl v u fun w g=>by simp[execOp,B w]
 case nilCheck x=>
  simp only[opW]at H;split at H
  .rename_i a U;exact aK rfl _ H fun w g=>by simp[execOp,U]
  .exact H
 case binOp op t x y yt=>exact Pb H id
 case unOp op t x=>
  cases op<;>simp only[opW]at H<;>try exact I H
  split at H
  .rename_i b hb;exact aK rfl _ H fun w g=>by simp[execOp,hb,Wy]
  .exact H.elim
 case convert s d x=>
  simp only[opW]at H;split at H
  .rename_i hx hu Z;obtain⟨W,u⟩:=H;refine aK rfl _ u fun w g=> ?_
   simp[execOp,hx,convert,run_underlying hu,run_underlying Z,Conv.intToInt,jI W]
  .exact H
 case extract x i=>
  simp only[opW]at H;split at H
  .rename_i vs hv;rw[je]at H;obtain⟨v,L,u⟩:=H;exact aK rfl v u fun w g=>by simp[execOp,hv,Lt,L]
  .exact H.elim
 case makeFunc fn first caps=>exact aK rfl _ H fun w g=>by simp[execOp,IJ]
 case call c=>
  obtain⟨O,args,ats⟩:=c;cases O with
  |value f=>exact Bw H id
  |_=>exact I H
 all_goals exact I H
end sound
section code
variable {l:Option Nat}{P:Program}
theorem kU (l:Option Nat):(fen l).depth=none:=rfl
theorem oV (F:Option Nat){f:FuncId}{args:Array Value}{w:World}{R:Ending->World->Prop}(H:Calls P f args w R):CallsIn (fen F) 0 P f args w R:=
 (callsIn_wide (n:=0)).2 H
theorem sO {o:Oper}(h:iX o.op=true)(ro:Option Nat)(ρ:Operand->Value):o.semAt ro ρ=execOp ρ o:=
 Oper.semAt_eq ro ρ o fun c g=>by rw[g]at h;cases h
theorem bW (ρ:Operand->Value)(o:Oper):execOp ρ o=execOp ρ {dst:=none,op:=o.op,type:=o.type,pos:= "",after:= #[],guard:=none}:=rfl
theorem iW {o:Oper}{e:Env}{d:List Deferred}{w:World}{next:Act->World->Prop}{Q:Exit->Act->World->Prop}
 (H:aI P o.op o.type e w.heap (fun v h'=>∀w',w'.heap=h'->Rest w w'->next ⟨(aU e o.dst v).toArray,d⟩ w')):o.wpIn (fen l) 0 P ⟨e.toArray,d⟩ w next Q:=by
 refine⟨fun _ _=>trivial,?_⟩;have u:=H.2 w rfl;rw[dY,sO H.1,bW];unfold dQ at u;split at u
 .rename_i v w' A;rw[A];simp only[Oper.uponIn,ay];exact u.1 w' rfl u.2
 .rename_i w' A;rw[A];simp only[Oper.uponIn,ay];exact u.1 w' rfl u.2
 .rename_i f N w' A;rw[A];refine⟨fun h=>by simp[kU]at h,CallsIn.mono (oV l u.2) ?_⟩;rintro O B ⟨v,rfl,L,g⟩;simp only[ay];exact L B rfl (u.1.trans g)
 .rename_i U f I J C w' A;rw[A];refine⟨fun h=>by simp[kU]at h,xz (show RoundIn (fen l) 0 P U f I J C w' _ from u.2) ?_⟩;rintro O B ⟨v,rfl,L,g⟩;simp only[ay];exact L B rfl (u.1.trans g)
 .exact u.elim
theorem ve {all:List Oper}{e:Env}{j:Nat}:
 yielded all.toArray e.toArray j=match fQ all j with|none=>none|some t=>match e[t]? with|some (.bool b)=>some b|_=>none:=by
 unfold yielded fQ;cases h:(all[j]?).bind (·.dst)with
 |none=>simp[h]
 |some t=>
  simp only[List.getElem?_toArray,h,kE];cases e[t]? with
  |none=>rfl
  |some v=>cases v<;>rfl
theorem jd {e:Env}{t:Nat}{b:Bool}(h:e.getD t undef= .bool b)(ht:t<e.length):e.set t (.bool b)=e:=by
 apply pV;intro i;by_cases g:t=i
 .subst g;simp[ht];simp[rT,aW ht]at h;exact h.symm
 .simp[g]
theorem dB {g:Option (Nat×Bool)}{all:List Oper}{e:Env}{A B:Env->Prop}(H:ax g all e A B)(o:Oper)(hg:o.guard=g):
 (fe o (yielded all.toArray e.toArray)=true/\A e)\/(fe o (yielded all.toArray e.toArray)=false/\B e):=by
 unfold ax at H;unfold fe;rw[hg];split at H
 .exact .inl ⟨rfl,H⟩
 .rename_i j want;simp only[ve];split at H
  .rename_i L;right;simp[H]
  .rename_i t L;unfold au at H;split at H
   .rename_i b I;have J:t<e.length:=by
     rcases sD t e.length with h|h
     .exact h
     .simp[rT,mI h,undef]at I
    simp only[aW J];have u:e.getD t undef=e[t]:=by simp[rT,aW J]
    have C:=jd I J;rw[u]at I;rw[I];cases b
    .have H:=H.2 rfl;simp only[C]at H;cases want
     .left;simpa using H
     .right;simpa using H
    .have H:=H.1 rfl;simp only[C]at H;cases want
     .right;simpa using H
     .left;simpa using H
   .rename_i vs I;right;refine⟨?_,H⟩;rcases sD t e.length with h|h
    .have u:e.getD t undef=e[t]:=by simp[rT,aW h]
     rw[u]at I;simp[aW h,I]
    .simp[mI h]
   .exact H.elim
theorem mW {all:List Oper}{k:aj}{w0:World}:∀(ops:List Oper) (e:Env) (d:List Deferred) (w:World),Rest w0 w->dN P all ops k e d w.heap->
 wpListIn (fen l) 0 P all.toArray (fun x a w'=>k x a.tmps.toList a.defers w'.heap/\Rest w0 w') ops ⟨e.toArray,d⟩ w
 |[],e,d,w,hr,H=>by simpa[wpListIn,hr,dN]using H
 |o::rest,e,d,w,hr,H=>by
  unfold dN at H;unfold wpListIn;rcases dB H o rfl with⟨u,B⟩|⟨u,C⟩
  .simp only[u,if_true];refine iW (bH ?_ (aM B));intro v h' I w' A g;subst A;exact mW rest _ d w' (hr.trans g) I
  .simp only[u,eB,if_false];refine⟨fun _ _=>trivial,?_⟩;rw[ay];exact mW rest _ d w hr C
theorem dA (a:Act):(⟨a.tmps.toList.toArray,a.defers⟩:Act)=a:=by cases a;simp
theorem LP {c:Operand}{e:Env}{X Y:Env->Prop}(H:KS c e X Y):∃b,ev e c= .bool b/\((b=true->X e)/\(b=false->Y e)):=by
 unfold KS at H;split at H
 .rename_i t;unfold au at H;split at H
  .rename_i b u;refine⟨b,by simpa[ev]using u,?_⟩;have A:t<e.length:=by
    rcases sD t e.length with h|h
    .exact h
    .simp[rT,mI h,undef]at u
   have g:=jd u A;refine⟨fun h=> ?_,fun h=> ?_⟩
   .have:=H.1 h;subst h;simpa[g]using this
   .have:=H.2 h;subst h;simpa[g]using this
  .exact H.elim
  .exact H.elim
 .exact⟨true,rfl,fun _=>H,(fun h=>by cases h)⟩
 .exact⟨false,rfl,(fun h=>by cases h),fun _=>H⟩
 .exact H.elim
theorem dD {c:Code}{k k':aj}{e:Env}{d:List Deferred}{h:Heap}(hk:∀x e d h,k x e d h->k' x e d h)(H:WP l P c k e d h):WP l P c k' e d h:=
 fun w g=>wpIn_mono (H w g) fun _ _ _ q=>⟨hk _ _ _ _ q.1,q.2⟩
theorem dI:∀(c:Code) (k:aj) (e:Env) (d:List Deferred) (h:Heap),exec l P c k e d h->WP l P c k e d h
 | .skip,k,e,d,h,H=>fun w g=>wpIn_skip ⟨by subst g;simpa[exec]using H,Rest.refl w⟩
 | .seq a b,k,e,d,h,H=>by
   unfold exec at H;have B:=dI a _ e d h H;refine fun w g=>wpIn_seq (wpIn_mono (B w g) ?_)
   rintro x L w' ⟨u,A⟩;cases x with
   |normal=>
    have C:=dI b k _ _ _ u w' rfl;rw[dA]at C;exact wpIn_mono C fun x a O q=>⟨q.1,A.trans q.2⟩
   |_=>exact⟨u,A⟩
 | .cond c x y,k,e,d,h,H=>by
   unfold exec at H;obtain⟨b,N,B,C⟩:=LP H;refine fun w g=>wpIn_cond_split (t:=b) (by rw[dY];exact N) (fun J=>dI x k e d h (B J) w g) (fun J=>dI y k e d h (C J) w g)
 | .block i c,k,e,d,h,H=>by
   unfold exec at H;have B:=dI c _ e d h H;refine fun w g=>wpIn_block (wpIn_mono (B w g) ?_)
   rintro x L w' ⟨u,A⟩;cases x with
   |exit j=>
    simp only[iK]at u;simp only[Exit.inBlock];split
    .rename_i I;rw[if_pos I]at u;exact⟨u,A⟩
    .rename_i I;rw[if_neg I]at u;exact⟨u,A⟩
   |_=>exact⟨u,A⟩
 | .region id ops false,k,e,d,h,H=>fun w g=>by
   subst g;exact wpIn_region_list (by have:=mW (l:=l) (w0:=w) ops.toList e d w (Rest.refl w) (by simpa[exec]using H);simpa using this)
 | .region id ops true,k,e,d,h,H=>by simpa[exec]using H
 | .exit i,k,e,d,h,H=>fun w g=>wpIn_exit ⟨by subst g;simpa[exec]using H,Rest.refl w⟩
 | .ret,k,e,d,h,H=>fun w g=>wpIn_ret ⟨by subst g;simpa[exec]using H,Rest.refl w⟩
 | .label i,k,e,d,h,H=>fun w g=>wpIn_label ⟨by subst g;simpa[exec]using H,Rest.refl w⟩
 | .goto i,k,e,d,h,H=>fun w g=>wpIn_goto ⟨by subst g;simpa[exec]using H,Rest.refl w⟩
 | .loop c,k,e,d,h,H=>by simpa[exec]using H
 | .rangeFunc f ps a b,k,e,d,h,H=>by simpa[exec]using H
 | .scope c,k,e,d,h,H=>by simpa[exec]using H
 | .refuse s,k,e,d,h,H=>by simpa[exec]using H
def jl (P:Program):List ResultVar->Env->List Value->(Value->Heap->Prop)->Heap->Prop
 |[],_,acc,K,h=>K (match acc with|[v]=>v|vs=> .tuple vs.toArray) h
 | .tmp t::rs,e,acc,K,h=>jl P rs e (acc++[e.getD t undef]) K h
 | .cell a t::rs,e,acc,K,h=>fU P t (e.getD a undef) h (fun v h=>jl P rs e (acc++[v]) K h)
def sI (vs:List Value):Value:=match vs with|[v]=>v|vs=> .tuple vs.toArray
def AV (h:Heap):List Deferred->Prop
 |[]=>True
 |d::ds=>∃r,d={target:= .collected r,args:= #[]}/\h[r]? =some (.deferred (some []))/\AV (h.setIfInBounds r (.deferred none)) ds
def lK (h:Heap):List Deferred->Heap
 |[]=>h
 |d::ds=>match d.target with| .collected r=>lK (h.setIfInBounds r (.deferred none)) ds|_=>lK h ds
def oO (P:Program)(rs:List ResultVar)(e:Env)(d:List Deferred)(h:Heap)(K:Value->Heap->Prop):Prop:=
 AV h d/\jl P rs e [] K (lK h d)
def lq (P:Program)(rs:List ResultVar)(K:Value->Heap->Prop):aj:=fun x e d h=>match x with| .normal=>oO P rs e d h K| .ret=>oO P rs e d h K|_=>False
def Sz (e:Env)(r:ResultVar):Sem Value:=match r with
 | .tmp t=>pure (e.toArray.getD t undef)
 | .cell a t=>do loadVar t (<-asAddr (e.toArray.getD a undef))
theorem su {e:Env}{h:Heap}{K:Value->Heap->Prop}:∀(rs:List ResultVar) (acc:List Value),jl P rs e acc K h->
 ∃vs,K (sI (acc++vs)) h/\∀w:World,w.heap=h->(rs.mapM (Sz e)).run P w=Result.ok vs w
 |[],acc,H=>⟨[],by rw[List.append_nil];exact H,fun w _=>by simp⟩
 | .tmp t::rs,acc,H=>by
   obtain⟨vs,u,A⟩:=su rs _ H;refine⟨e.getD t undef::vs,by simpa using u,fun w g=> ?_⟩;rw[zL,aY];simp[Sz,A w g]
 | .cell a t::rs,acc,H=>by
   obtain⟨v,I,J⟩:=og (K:=fun v h=>jl P rs e (acc++[v]) K h) H;obtain⟨vs,u,A⟩:=su rs _ I;refine⟨v::vs,by simpa using u,fun w g=> ?_⟩;have B:(Sz e (.cell a t)).run P w= .ok v w:=by
    have:=J w g;have L:e.toArray.getD a undef=e.getD a undef:=by simp
    simp only[Sz,L];generalize e.getD a undef=p at *;cases p<;>simp[EE,pq]at this;rename_i C;cases C<;>simp[asAddr]at *;exact this
   rw[zL,aY,B];simp only[aN,aY,A w g,bE]
theorem Cr {fn:Func}{e:Env}{h:Heap}{K:Value->Heap->Prop}(H:jl P fn.results.toList e [] K h):
 ∃v,K v h/\∀w:World,w.heap=h->(results fn e.toArray).run P w= .ok v w:=by
 obtain⟨vs,u,A⟩:=su _ _ H;refine⟨sI vs,by simpa using u,fun w C=> ?_⟩;have B:=A w C;have g:results fn e.toArray=(do let vs<-fn.results.mapM (Sz e);pure (if h:vs.size=1 then vs[0]else .tuple vs)):=rfl;rw[g];have:fn.results=fn.results.toList.toArray:=by simp
 rw[this,MV];rw[aY,Sem.run_map,B];simp only[aN,bE];congr 1
 match vs with
 |[]=>simp[sI]
 |[v]=>simp[sI]
 |v::v'::vs=>simp[sI]
theorem jF {fn:Func}{e:Env}{K:Value->Heap->Prop}{w0:World}:∀(d:List Deferred) (w:World),Rest w0 w->oO P fn.results.toList e d w.heap K->
 LeavesInM (fen none) 0 P fn e.toArray (fun x w'=>∃v,x= .returned v/\K v w'.heap/\Rest w0 w') d .returning w
 |[],w,hr,H=>by
  obtain⟨_,H⟩:=H;obtain⟨vs,g,u⟩:=Cr H;exact⟨_,u w rfl,_,rfl,g,hr⟩
 |x::ds,w,hr,H=>by
  obtain⟨⟨r,rfl,A,B⟩,H⟩:=H;refine⟨by simp,.inl ⟨r,_,rfl,run_takeDeferred A,?_⟩⟩;refine jF ds _ (hr.trans ⟨rfl,rfl,rfl⟩) ⟨?_,?_⟩
  .simpa[World.putObj]using B
  .simpa[World.putObj,lK]using H
theorem Rm {f:FuncId}{fn:Func}{c:Code}{args:Array Value}{h:Heap}{K:Value->Heap->Prop}(hf:P.funcs[f]? =some fn)(hb:fn.body=some c)(hbod:qA P f=true)
 (H:exec none P c (lq P fn.results.toList K) (args.toList++aZ (fn.ntmps-args.size) undef) [] h):ak P f args h K:=by
 refine⟨hbod,fun w C=> ?_⟩;refine callsIn_wide.1 (callsIn_of_wp_marks (F:=Fence.wide) (n:=0) hf hb trivial ?_ rfl);have u:=dI c _ _ _ _ H w C;have B:(args.toList++aZ (fn.ntmps-args.size) undef).toArray=args++xG (fn.ntmps-args.size) undef:=by
  apply bz.1;simp
 rw[B]at u;refine wpIn_mono u ?_;rintro x a w' ⟨g,A⟩;cases x with
 |normal=>have:=jF (P:=P) (fn:=fn) a.defers w' A g;rw[lC]at this;exact this
 |ret=>have:=jF (P:=P) (fn:=fn) a.defers w' A g;rw[lC]at this;exact this
 |_=>exact g.elim
end code
section walk
variable {l:Option Nat}{P:Program}
theorem Gd {n:Env->List Deferred->Heap->Prop}{k:aj}{e:Env}{d:List Deferred}{h:Heap}:iC n k .normal e d h=n e d h:=eqi rfl
theorem QT {n:Env->List Deferred->Heap->Prop}{k:aj}{e:Env}{d:List Deferred}{h:Heap}:iC n k .ret e d h=k .ret e d h:=eqi rfl
theorem Ka {n:Env->List Deferred->Heap->Prop}{k:aj}{i:Nat}{e:Env}{d:List Deferred}{h:Heap}:iC n k (.exit i) e d h=k (.exit i) e d h:=eqi rfl
theorem Cq {i:Nat}{k:aj}{e:Env}{d:List Deferred}{h:Heap}:iK i k .normal e d h=k .normal e d h:=eqi rfl
theorem NP {i:Nat}{k:aj}{e:Env}{d:List Deferred}{h:Heap}:iK i k .ret e d h=k .ret e d h:=eqi rfl
theorem Jk {i j:Nat}{k:aj}{e:Env}{d:List Deferred}{h:Heap}:iK i k (.exit j) e d h=if j=i then k .normal e d h else k (.exit j) e d h:=eqi rfl
theorem Ji {rs:List ResultVar}{K:Value->Heap->Prop}{e:Env}{d:List Deferred}{h:Heap}:lq P rs K .normal e d h=oO P rs e d h K:=eqi rfl
theorem Tp {rs:List ResultVar}{K:Value->Heap->Prop}{e:Env}{d:List Deferred}{h:Heap}:lq P rs K .ret e d h=oO P rs e d h K:=eqi rfl
theorem qI {x:Value}{h:Heap}{K:Value->Heap->Prop}:onV (some x) K h=K x h:=eqi rfl
theorem Ai {x:List Value}{h:Heap}{K:Value->Heap->Prop}:onC (some x) K h=K (.agg x.toArray) h:=eqi rfl
theorem U1 {c:List Value}{ct:TypeId}{b off:Nat}{vs:List Value}{h:Heap}{K:Value->Heap->Prop}:stK (some (c,ct)) b off vs h K=(off+vs.length<=c.length/\K undef (nL h b (splice c off vs) ct)):=eqi rfl
def eU (P:Program)(all rest:List Oper)(k:aj)(dst:Option Tmp)(e:Env)(d:List Deferred):Value->Heap->Prop:=fun v h=>dN P all rest k (aU e dst v) d h
def gd (P:Program)(v:Value)(s:Tmp)(want:Bool)(op:Op)(ty:TypeId)(all rest:List Oper)(k:aj)(dst:Option Tmp)(e:Env)(d:List Deferred)(h:Heap):Prop:=
 au v (fun b=>if b=want then opW P op ty (e.set s (.bool b)) h (eU P all rest k dst (e.set s (.bool b)) d)else dN P all rest k (aU (e.set s (.bool b)) dst undef) d h) (dN P all rest k (aU e dst undef) d h)
def cd (l:Option Nat)(P:Program)(v:Value)(s:Tmp)(x y:Code)(k:aj)(e:Env)(d:List Deferred)(h:Heap):Prop:=
 au v (fun b=>if b then exec l P x k (e.set s (.bool true)) d h else exec l P y k (e.set s (.bool false)) d h) False
section cds
variable {v:Value}{s:Tmp}{x y:Code}{k:aj}{e:Env}{d:List Deferred}{h:Heap}{p:Prop}[Decidable p]{b:Bool}
theorem Vp:cd l P (.bool true) s x y k e d h=exec l P x k (e.set s (.bool true)) d h:=by simp[cd,au]
theorem Tq:cd l P (.bool false) s x y k e d h=exec l P y k (e.set s (.bool false)) d h:=by simp[cd,au]
theorem ZY:cd l P (.bool (decide p)) s x y k e d h=((p->exec l P x k (e.set s (.bool true)) d h)/\(¬p->exec l P y k (e.set s (.bool false)) d h)):=by
 by_cases g:p<;>simp[cd,au,g]
theorem V9:cd l P (.bool (!decide p)) s x y k e d h=((p->exec l P y k (e.set s (.bool false)) d h)/\(¬p->exec l P x k (e.set s (.bool true)) d h)):=by
 by_cases g:p<;>simp[cd,au,g]
variable {op:Op}{ty:TypeId}{all rest:List Oper}{dst:Option Tmp}{vs:Array Value}
theorem zBP:gd P (.bool true) s true op ty all rest k dst e d h=opW P op ty (e.set s (.bool true)) h (eU P all rest k dst (e.set s (.bool true)) d):=by simp[gd,au]
theorem zAe:gd P (.bool false) s false op ty all rest k dst e d h=opW P op ty (e.set s (.bool false)) h (eU P all rest k dst (e.set s (.bool false)) d):=by simp[gd,au]
theorem zAr:gd P (.bool true) s false op ty all rest k dst e d h=dN P all rest k (aU (e.set s (.bool true)) dst undef) d h:=by simp[gd,au]
theorem zAz:gd P (.bool false) s true op ty all rest k dst e d h=dN P all rest k (aU (e.set s (.bool false)) dst undef) d h:=by simp[gd,au]
theorem Tc {w:Bool}:gd P (.tuple vs) s w op ty all rest k dst e d h=dN P all rest k (aU e dst undef) d h:=by simp[gd,au]
theorem Tu:gd P (.bool (decide p)) s true op ty all rest k dst e d h=((p->opW P op ty (e.set s (.bool true)) h (eU P all rest k dst (e.set s (.bool true)) d))/\(¬p->dN P all rest k (aU (e.set s (.bool false)) dst undef) d h)):=by
 by_cases g:p<;>simp[gd,au,g]
theorem UN:gd P (.bool (decide p)) s false op ty all rest k dst e d h=((p->dN P all rest k (aU (e.set s (.bool true)) dst undef) d h)/\(¬p->opW P op ty (e.set s (.bool false)) h (eU P all rest k dst (e.set s (.bool false)) d))):=by
 by_cases g:p<;>simp[gd,au,g]
theorem RD:gd P (.bool (!decide p)) s true op ty all rest k dst e d h=((p->dN P all rest k (aU (e.set s (.bool false)) dst undef) d h)/\(¬p->opW P op ty (e.set s (.bool true)) h (eU P all rest k dst (e.set s (.bool true)) d))):=by
 by_cases g:p<;>simp[gd,au,g]
theorem Pw:gd P (.bool (!decide p)) s false op ty all rest k dst e d h=((p->opW P op ty (e.set s (.bool false)) h (eU P all rest k dst (e.set s (.bool false)) d))/\(¬p->dN P all rest k (aU (e.set s (.bool true)) dst undef) d h)):=by
 by_cases g:p<;>simp[gd,au,g]
end cds
theorem UH {rs:List ResultVar}{e:Env}{h:Heap}{K:Value->Heap->Prop}:oO P rs e [] h K=jl P rs e [] K h:=by simp[oO,AV,lK]
end walk
section eqs
variable {l:Option Nat}{P:Program}{ty t:TypeId}{e:Env}{d:List Deferred}{h:Heap}{k:aj}{K:Value->Heap->Prop}
theorem Rf:exec l P .skip k e d h=k .normal e d h:=eqi rfl
theorem Ru {a b:Code}:exec l P (.seq a b) k e d h=exec l P a (iC (exec l P b k) k) e d h:=eqi rfl
theorem QY {s:Tmp}{x y:Code}:exec l P (.cond (.tmp s) x y) k e d h=cd l P (e.getD s undef) s x y k e d h:=eqi rfl
theorem JL {x y:Code}:exec l P (.cond (.const (.bool true)) x y) k e d h=exec l P x k e d h:=eqi rfl
theorem JX {x y:Code}:exec l P (.cond (.const (.bool false)) x y) k e d h=exec l P y k e d h:=eqi rfl
theorem Lx {i:Nat}{c:Code}:exec l P (.block i c) k e d h=exec l P c (iK i k) e d h:=eqi rfl
theorem zC {i:Nat}{ops:List Oper}:exec l P (.region i ops.toArray false) k e d h=dN P ops ops k e d h:=eqi rfl
theorem Qv {i:Nat}{ops:Array Oper}:exec l P (.region i ops true) k e d h=WP l P (.region i ops true) k e d h:=eqi rfl
theorem Pp {i:Nat}:exec l P (.exit i) k e d h=k (.exit i) e d h:=eqi rfl
theorem UG:exec l P .ret k e d h=k .ret e d h:=eqi rfl
theorem Mj {i:Nat}:exec l P (.label i) k e d h=k .normal e d h:=eqi rfl
theorem PZ {c:Code}:exec l P (.loop c) k e d h=WP l P (.loop c) k e d h:=eqi rfl
theorem BQ {f:Operand}{ps:Array Tmp}{a b:Code}:exec l P (.rangeFunc f ps a b) k e d h=WP l P (.rangeFunc f ps a b) k e d h:=eqi rfl
theorem Qa {all:List Oper}:dN P all [] k e d h=k .normal e d h:=eqi rfl
theorem NQ {all:List Oper}{dst:Option Tmp}{op:Op}{pos:String}{after:Array Edge}{rest:List Oper}:
 dN P all (⟨dst,op,ty,pos,after,none⟩::rest) k e d h=opW P op ty e h (eU P all rest k dst e d):=eqi rfl
def gdo (P:Program)(s:Option Tmp)(want:Bool)(op:Op)(ty:TypeId)(all rest:List Oper)(k:aj)(dst:Option Tmp)(e:Env)(d:List Deferred)(h:Heap):Prop:=
 match s with|some s=>gd P (e.getD s undef) s want op ty all rest k dst e d h|none=>dN P all rest k (aU e dst undef) d h
theorem Ig {all:List Oper}{dst:Option Tmp}{op:Op}{pos:String}{after:Array Edge}{rest:List Oper}{j:Nat}{want:Bool}:
 dN P all (⟨dst,op,ty,pos,after,some (j,want)⟩::rest) k e d h=gdo P (fQ all j) want op ty all rest k dst e d h:=by
 simp only[dN,ax,gdo];cases fQ all j<;>rfl
theorem Sm {all rest:List Oper}{dst:Option Tmp}{op:Op}{want:Bool}{s:Tmp}:gdo P (some s) want op ty all rest k dst e d h=gd P (e.getD s undef) s want op ty all rest k dst e d h:=eqi rfl
theorem Lc {o:Oper}{all:List Oper}:fQ (o::all) 0=o.dst:=eqi rfl
theorem LW {o:Oper}{all:List Oper}{j:Nat}:fQ (o::all) (j+1)=fQ all j:=eqi rfl
theorem aV {all rest:List Oper}{dst:Option Tmp}{v:Value}:eU P all rest k dst e d v h=dN P all rest k (aU e dst v) d h:=eqi rfl
theorem Q9 {s:Tmp}{v:Value}:aU e (some s) v=e.set s v:=eqi rfl
theorem QZ {v:Value}:aU e none v=e:=eqi rfl
theorem YZ {s:Tmp}:ev e (.tmp s)=e.getD s undef:=eqi rfl
theorem UT {v:Value}:ev e (.const v)=v:=eqi rfl
theorem Qd {g:Nat}:ev e (.global g)= .pointer (some ⟨g,0,none⟩):=eqi rfl
theorem WO {f:FuncId}:ev e (.func f)= .func (.func f) #[] #[]:=eqi rfl
theorem KJ {x:Operand}:opW P (.move x) ty e h K=K (ev e x) h:=eqi rfl
theorem Au {x:Operand}:opW P (.assign x) ty e h K=K (ev e x) h:=eqi rfl
def pkW (c a b:Value)(h:Heap)(K:Value->Heap->Prop):Prop:=match c with| .bool t=>K (if t then a else b) h|_=>False
theorem AQ {c a b:Operand}:opW P (.pick c a b) ty e h K=pkW (ev e c) (ev e a) (ev e b) h K:=eqi rfl
theorem KR {a b:Value}:pkW (.bool true) a b h K=K a h:=eqi rfl
theorem EX {a b:Value}:pkW (.bool false) a b h K=K b h:=eqi rfl
def alW (z:Option Value)(t:TypeId)(h:Heap)(K:Value->Heap->Prop):Prop:=match z with|some z=>K (.pointer (some ⟨h.size,0,none⟩)) (h.push (.cells z.cells t))|none=>False
theorem wZ:opW P (.alloc t) ty e h K=alW (dJ P t) t h K:=by
 simp only[opW,alW,mZ];cases dJ P t<;>rfl
theorem BR {z:Value}:alW (some z) t h K=K (.pointer (some ⟨h.size,0,none⟩)) (h.push (.cells z.cells t)):=eqi rfl
theorem FY {x:Operand}:opW P (.box t x) ty e h K=K (.pointer (some ⟨h.size,0,none⟩)) (h.push (.cells (ev e x).cells t)):=eqi rfl
theorem Jf {x:Operand}:opW P (.load t x) ty e h K=fU P t (ev e x) h K:=eqi rfl
theorem Dg {p:Option Addr}(ha:zF P t=some false):fU P t (.pointer p) h K=onV (jL h p) K h:=by simp[fU,ha]
theorem EB {p:Option Addr}(ha:zF P t=some true)(hi:(P.info? t).isSome=true):fU P t (.pointer p) h K=onC (gm h p (szT P t)) K h:=by simp[fU,ha,hi]
theorem EJ {a x:Operand}:opW P (.store t a x) ty e h K=kw P t (ev e a) (ev e x) h K:=eqi rfl
theorem Dx {b off:Nat}{v:Value}(hi:(P.info? t).isSome=true)(hs:v.cells.size=szT P t)(ho:v.cells.toList.all one=true):
 kw P t (.pointer (some ⟨b,off,none⟩)) v h K=stK (Qt h b) b off v.cells.toList h K:=by
 simp only[kw,hi,hs,ho,true_and]
def faW (v:Value)(o:Option Nat)(h:Heap)(K:Value->Heap->Prop):Prop:=match v with| .pointer (some a)=>a.spot=none/\mZ o (fun off=>K (.pointer (some (Cm a off))) h)|_=>False
theorem sJ {s:TypeId}{x:Operand}{f:Nat}:opW P (.fieldAddr s x f) ty e h K=faW (ev e x) (jG P s f) h K:=eqi rfl
theorem Ue {b o off:Nat}:faW (.pointer (some ⟨b,o,none⟩)) (some off) h K=K (.pointer (some ⟨b,o+off,none⟩)) h:=by
 simp only[faW,mZ,true_and,Cm];by_cases g:off=0<;>simp[g]
theorem mi {x i:Operand}:opW P (.indexAddr t x i) ty e h K=wQ P t (ev e x) (ev e i) h K:=eqi rfl
def ixW (P:Program)(d:Option TypeDesc)(x i:Value)(h:Heap)(K:Value->Heap->Prop):Prop:=
 match i with
 | .int _ n=>match d,x with
   |some (.slice el),.slice a len _=>(P.info? el).isSome=true/\(0<=n/\n<len)/\a.isSome=true/\K (.pointer (lg a (n.toNat*szT P el))) h
   |some (.array len el),.pointer (some a)=>(P.info? el).isSome=true/\(0<=n/\n<len)/\K (.pointer (some (Cm a (n.toNat*szT P el)))) h
   |_,_=>False
 |_=>False
theorem FH {x i:Value}:wQ P t x i h K=ixW P (P.underlying t) x i h K:=eqi rfl
theorem Dk {el:TypeId}{a:Option Addr}{len cap:Nat}{q:IntKind}{n:Int}(hi:(P.info? el).isSome=true):
 ixW P (some (.slice el)) (.slice a len cap) (.int q n) h K=((0<=n/\n<len)/\a.isSome=true/\K (.pointer (lg a (n.toNat*szT P el))) h):=by simp only[ixW,hi,true_and]
theorem Dv {el:TypeId}{b o:Nat}{len:Nat}{q:IntKind}{n:Int}(hi:(P.info? el).isSome=true):
 ixW P (some (.array len el)) (.pointer (some ⟨b,o,none⟩)) (.int q n) h K=((0<=n/\n<len)/\K (.pointer (some ⟨b,o+n.toNat*szT P el,none⟩)) h):=by
 simp only[ixW,hi,true_and,Cm];by_cases g:n.toNat*szT P el=0<;>simp[g]
theorem gK {b o n:Nat}:lg (some ⟨b,o,none⟩) n=some ⟨b,o+n,none⟩:=by
 simp only[lg,sw,Cm];by_cases g:n=0<;>simp[g]
def ncW (v:Value)(F:Prop)(h:Heap)(K:Value->Heap->Prop):Prop:=match v with| .pointer (some a)=>K (.pointer (some a)) h|_=>F
theorem uz {x:Operand}:opW P (.nilCheck x) ty e h K=ncW (ev e x) (aI P (.nilCheck x) ty e h K) h K:=by
 simp only[opW,ncW]
theorem ZH {a:Addr}{F:Prop}:ncW (.pointer (some a)) F h K=K (.pointer (some a)) h:=eqi rfl
theorem rH {op:BinOp}{x y:Operand}{yt:TypeId}:opW P (.binOp op t x y yt) ty e h K=dF op (ev e x) (ev e y) h K (aI P (.binOp op t x y yt) ty e h K):=eqi rfl
section bins
variable {q:IntKind}{a b:Int}{F:Prop}
theorem WJ:dF .add (.int q a) (.int q b) h K F=(InK q (a+b)/\K (.int q (a+b)) h):=by simp[dF,fI]
theorem Vj:dF .sub (.int q a) (.int q b) h K F=(InK q (a-b)/\K (.int q (a-b)) h):=by simp[dF,fI]
theorem VW:dF .mul (.int q a) (.int q b) h K F=(InK q (a*b)/\K (.int q (a*b)) h):=by simp[dF,fI]
theorem Wd:dF .quo (.int q a) (.int q b) h K F=(b≠0/\InK q (a.tdiv b)/\K (.int q (a.tdiv b)) h):=by simp[dF,fI]
theorem Vv:dF .rem (.int q a) (.int q b) h K F=(b≠0/\K (.int q (a.tmod b)) h):=by simp[dF,fI]
theorem Wi:dF .eql (.int q a) (.int q b) h K F=K (.bool (decide (a=b))) h:=by simp[dF,fI]
theorem VM:dF .neq (.int q a) (.int q b) h K F=K (.bool (!decide (a=b))) h:=by simp[dF,fI]
theorem VX:dF .lss (.int q a) (.int q b) h K F=K (.bool (decide (a<b))) h:=by simp[dF,fI]
theorem Vy:dF .leq (.int q a) (.int q b) h K F=K (.bool (decide (a<=b))) h:=by simp[dF,fI]
theorem Vr:dF .gtr (.int q a) (.int q b) h K F=K (.bool (decide (b<a))) h:=by simp[dF,fI]
theorem Ut:dF .geq (.int q a) (.int q b) h K F=K (.bool (decide (b<=a))) h:=by simp[dF,fI]
theorem VY {q':IntKind}:dF .shl (.int q a) (.int q' b) h K F=(0<=b/\b<=q.bits/\InK q (a*2^b.toNat)/\K (.int q (a*2^b.toNat)) h):=by simp[dF,fI]
theorem Vt {q':IntKind}:dF .shr (.int q a) (.int q' b) h K F=(0<=b/\b<=q.bits/\K (.int q (a/2^b.toNat)) h):=by simp[dF,fI]
theorem VQ:dF .and (.int q a) (.int q b) h K F=K (.int q (nP .and q a b)) h:=by simp[dF,fI]
theorem ZP:dF .or (.int q a) (.int q b) h K F=K (.int q (nP .or q a b)) h:=by simp[dF,fI]
theorem Vx:dF .xor (.int q a) (.int q b) h K F=K (.int q (nP .xor q a b)) h:=by simp[dF,fI]
theorem Mv:dF .andNot (.int q a) (.int q b) h K F=K (.int q (nP .andNot q a b)) h:=by simp[dF,fI]
variable {s r:ByteArray}
theorem SC:dF .add (.string s) (.string r) h K F=(((s.size+r.size:Nat):Int)<=9223372036854775807/\K (.string (s++r)) h):=eqi rfl
theorem Ti:dF .eql (.string s) (.string r) h K F=K (.bool (decide (s=r))) h:=eqi rfl
theorem Tw:dF .neq (.string s) (.string r) h K F=K (.bool (!decide (s=r))) h:=eqi rfl
theorem Us {op:BinOp}{x y:Array Value}:dF op (.agg x) (.agg y) h K F=F:=by cases op<;>rfl
theorem SX {op:BinOp}{x y:Bool}:dF op (.bool x) (.bool y) h K F=F:=by cases op<;>rfl
end bins
def ntW (v:Value)(h:Heap)(K:Value->Heap->Prop):Prop:=match v with| .bool b=>K (.bool (!b)) h|_=>False
theorem N8 {x:Operand}:opW P (.unOp .not t x) ty e h K=ntW (ev e x) h K:=eqi rfl
theorem Rn {b:Bool}:ntW (.bool b) h K=K (.bool (!b)) h:=eqi rfl
def cvW (v:Value)(u s:Option TypeDesc)(F:Prop)(h:Heap)(K:Value->Heap->Prop):Prop:=match v,u,s with| .int _ n,some (.int k),some (.int _)=>InK k n/\K (.int k n) h|_,_,_=>F
theorem Ae {s u:TypeId}{x:Operand}:opW P (.convert s u x) ty e h K=cvW (ev e x) (P.underlying u) (P.underlying s) (aI P (.convert s u x) ty e h K) h K:=by
 simp only[opW,cvW]
theorem Fp {q q' q'':IntKind}{n:Int}{F:Prop}:cvW (.int q n) (some (.int q')) (some (.int q'')) F h K=(InK q' n/\K (.int q' n) h):=eqi rfl
theorem WA {s':ByteArray}{u s:Option TypeDesc}{F:Prop}:cvW (.string s') u s F h K=F:=eqi rfl
theorem RU {a:Option Addr}{n c:Nat}{u s:Option TypeDesc}{F:Prop}:cvW (.slice a n c) u s F h K=F:=eqi rfl
def exW (v:Value)(i:Nat)(h:Heap)(K:Value->Heap->Prop):Prop:=match v with| .tuple vs=>onV vs[i]? K h|_=>False
theorem yg {x:Operand}{i:Nat}:opW P (.extract x i) ty e h K=exW (ev e x) i h K:=eqi rfl
theorem RQ {vs:List Value}{i:Nat}:exW (.tuple vs.toArray) i h K=onV vs[i]? K h:=by simp[exW]
theorem wC {fn:Fn}{first caps:Array Operand}:opW P (.makeFunc fn first caps) ty e h K=K (.func fn (first.map (ev e)) (caps.map (ev e))) h:=eqi rfl
theorem Gg {f:Operand}{args:Array Operand}{ats:Array TypeId}:opW P (.call ⟨.value f,args,ats⟩) ty e h K=qB P (ev e f) (args.map (ev e)) h K (aI P (.call ⟨.value f,args,ats⟩) ty e h K):=eqi rfl
theorem BF {f:FuncId}{first caps args:Array Value}{F:Prop}:qB P (.func (.func f) first caps) args h K F=ak P f (first++args++caps) h K:=eqi rfl
theorem yz {b:Builtin}{args:Array Operand}{ats:Array TypeId}:opW P (.call ⟨.builtin b,args,ats⟩) ty e h K=lZ b (args.map (ev e)).toList ((ats[0]?).bind P.underlying) h K (aI P (.call ⟨.builtin b,args,ats⟩) ty e h K):=eqi rfl
section blt
variable {F:Prop}{a:Option Addr}{n c:Nat}{el:TypeId}{s:ByteArray}{q q':IntKind}{x y:Int}{dd:Option TypeDesc}{vs:List Value}
theorem Cu:lZ .len [.slice a n c] (some (.slice el)) h K F=K (.int .i64 n) h:=eqi rfl
theorem KH:lZ .len [.string s] (some .string) h K F=K (.int .i64 s.size) h:=eqi rfl
theorem Uu:lZ .min [.int q x,.int q' y] dd h K F=K (.int q (if y<x then y else x)) h:=by cases dd<;>rfl
theorem VB:lZ .max [.int q x,.int q' y] dd h K F=K (.int q (if x<y then y else x)) h:=by cases dd<;>rfl
theorem LY:lZ .append vs dd h K F=F:=eqi rfl
theorem U8:lZ .copy vs dd h K F=F:=eqi rfl
theorem QE:lZ .clear vs dd h K F=F:=eqi rfl
theorem Ke:lZ .delete vs dd h K F=F:=eqi rfl
theorem Iu {r:Option Nat}{u w:TypeId}:lZ .len [.map r] (some (.map u w)) h K F=F:=eqi rfl
end blt
section
variable {ct:TypeId}{h':Heap}{o:Obj}
def Ci (ok:Bool)(z:Option Value)(pl:Nat->Option (Nat×Nat))(parts:List (Nat×Value))(h:Heap)(K:Value->Heap->Prop)(F:Prop):Prop:=
 match ok,z with|true,some z=>onC (jK pl z.cells.toList parts) K h|_,_=>F
theorem EK {parts:Array (Nat×Operand)}:opW P (.build t parts) ty e h K=Ci (jh P t) (dJ P t) (mF P t) (parts.map fun(i,x)=>(i,ev e x)).toList h K (aI P (.build t parts) ty e h K):=by
 simp only[opW,pvW,NK,Ci,zH]
theorem Ee {z:Value}{pl:Nat->Option (Nat×Nat)}{parts:List (Nat×Value)}{F:Prop}:Ci true (some z) pl parts h K F=onC (jK pl z.cells.toList parts) K h:=eqi rfl
def UI (o:Option (Nat×Nat))(pl:Nat->Option (Nat×Nat))(cells:List Value)(v:Value)(rest:List (Nat×Value)):Option (List Value):=
 match o with|some (off,size)=>if v.cells.size=size/\off+size<=cells.length then jK pl (splice cells off v.cells.toList) rest else none|none=>none
theorem Re {pl:Nat->Option (Nat×Nat)}{cells:List Value}:jK pl cells []=some cells:=eqi rfl
theorem NM {pl:Nat->Option (Nat×Nat)}{cells:List Value}{i:Nat}{v:Value}{rest:List (Nat×Value)}:jK pl cells ((i,v)::rest)=UI (pl i) pl cells v rest:=by simp only[jK,UI]
theorem Ki {pl:Nat->Option (Nat×Nat)}{cells:List Value}{v:Value}{rest:List (Nat×Value)}{off size:Nat}:UI (some (off,size)) pl cells v rest=if v.cells.size=size/\off+size<=cells.length then jK pl (splice cells off v.cells.toList) rest else none:=eqi rfl
def Rs (P:Program)(el:TypeId)(z:Option Value)(n:Nat)(parts:List (Nat×Value))(h:Heap)(K:Value->Heap->Prop)(F:Prop):Prop:=
 match z with
  |some z=>z.cells.size=szT P el/\0<szT P el/\n*szT P el<=16777216/\
   mZ (jK (fun i=>some (i*szT P el,szT P el)) (aZ n z.cells.toList).flatten parts) (fun cs=>K (.slice (some ⟨h.size,0,none⟩) n n) (h.push (.cells cs.toArray el)))
  |none=>F
theorem lH {n:Nat}{parts:Array (Nat×Operand)}:opW P (.buildSlice t n parts) ty e h K=Ey P (P.underlying t) n (parts.map fun(i,x)=>(i,ev e x)).toList h K (aI P (.buildSlice t n parts) ty e h K):=eqi rfl
theorem LJ {el:TypeId}{n:Nat}{parts:List (Nat×Value)}{F:Prop}:Ey P (some (.slice el)) n parts h K F=Rs P el (dJ P el) n parts h K F:=by simp only[Ey,Rs]
def VK (o:Option (List Value))(n:Nat)(el:TypeId)(h:Heap)(K:Value->Heap->Prop):Prop:=match o with|some cs=>K (.slice (some ⟨h.size,0,none⟩) n n) (h.push (.cells cs.toArray el))|none=>False
theorem QS {el:TypeId}{z:Value}{n:Nat}{parts:List (Nat×Value)}{F:Prop}:Rs P el (some z) n parts h K F=(z.cells.size=szT P el/\0<szT P el/\n*szT P el<=16777216/\
 VK (jK (fun i=>some (i*szT P el,szT P el)) (aZ n z.cells.toList).flatten parts) n el h K):=by
 simp only[Rs,VK,mZ];cases jK (fun i=>some (i*szT P el,szT P el)) (aZ n z.cells.toList).flatten parts<;>rfl
theorem QH {cs:List Value}{n:Nat}{el:TypeId}:VK (some cs) n el h K=K (.slice (some ⟨h.size,0,none⟩) n n) (h.push (.cells cs.toArray el)):=eqi rfl
theorem Dj {x i:Operand}:opW P (.index t x i) ty e h K=Ct (ev e x) (ev e i) (P.underlying t) h K (aI P (.index t x i) ty e h K):=eqi rfl
theorem TH {s:ByteArray}{q:IntKind}{n:Int}{F:Prop}:Ct (.string s) (.int q n) (some .string) h K F=((0<=n/\n<s.size)/\K (.int .u8 (s.data.getD n.toNat 0).toNat) h):=eqi rfl
theorem Dw {x:Operand}{f:Nat}:opW P (.field t x f) ty e h K=BX P (ev e x) (mH P t f) h K (aI P (.field t x f) ty e h K):=eqi rfl
theorem WB {cs:List Value}{off:Nat}{u:TypeId}{F:Prop}:BX P (.agg cs.toArray) (some (off,u)) h K F=nT P u cs off h K:=by simp only[BX]
theorem PW {cs:List Value}{off:Nat}(ha:zF P t=some false):nT P t cs off h K=onV cs[off]? K h:=by simp only[nT,ha]
theorem Qz {cs:List Value}{off:Nat}(ha:zF P t=some true)(hi:(P.info? t).isSome=true):nT P t cs off h K=K (.agg ((cs.drop off).take (szT P t)).toArray) h:=by simp only[nT,ha,hi,true_and]
theorem ng {x:Operand}{a b c:Option Operand}:opW P (.slice t x a b c) ty e h K=ru P (ev e x) (P.underlying t) (a.map (ev e)) (b.map (ev e)) (c.map (ev e)) h K (aI P (.slice t x a b c) ty e h K):=eqi rfl
def Wv (l r:Option Int)(s:ByteArray)(h:Heap)(K:Value->Heap->Prop):Prop:=match l,r with|some l,some r=>OU s l r h K|_,_=>False
def Fy (P:Program)(l r m:Option Int)(a:Option Addr)(cap:Nat)(el:TypeId)(h:Heap)(K:Value->Heap->Prop):Prop:=match l,r,m with|some l,some r,some m=>vO P a cap el l r m h K|_,_,_=>False
theorem Jz {s:ByteArray}{lo hi:Option Value}{F:Prop}:ru P (.string s) (some .string) lo hi none h K F=Wv (bnd lo 0) (bnd hi s.size) s h K:=by simp only[ru,Wv]
theorem HZ {a:Option Addr}{len cap:Nat}{el:TypeId}{lo hi:Option Value}{F:Prop}:ru P (.slice a len cap) (some (.slice el)) lo hi none h K F=Fy P (bnd lo 0) (bnd hi len) (some cap) a cap el h K:=by
 cases hi<;>simp only[ru,Fy,bnd]
theorem BU {a:Option Addr}{len cap:Nat}{el:TypeId}{lo:Option Value}{u m:Value}{F:Prop}:ru P (.slice a len cap) (some (.slice el)) lo (some u) (some m) h K F=Fy P (bnd lo 0) (bnd (some u) len) (bnd (some m) cap) a cap el h K:=by
 simp only[ru,Fy]
theorem Jc {a:Addr}{n:Nat}{el:TypeId}{lo hi:Option Value}{F:Prop}:ru P (.pointer (some a)) (some (.array n el)) lo hi none h K F=Fy P (bnd lo 0) (bnd hi n) (some n) (some a) n el h K:=by
 simp only[ru,Fy];cases bnd lo 0<;>cases bnd hi n<;>rfl
theorem Dr {l r:Int}{s:ByteArray}:Wv (some l) (some r) s h K=(0<=l/\l<=r/\r<=s.size/\K (.string (s.extract l.toNat r.toNat)) h):=eqi rfl
theorem rD {l r m:Int}{a:Option Addr}{cap:Nat}{el:TypeId}(hi:(P.info? el).isSome=true):Fy P (some l) (some r) (some m) a cap el h K=(0<=l/\l<=r/\r<=m/\m<=cap/\K (.slice (if m=l then a else lg a (l.toNat*szT P el)) (r-l).toNat (m-l).toNat) h):=by
 simp only[Fy,vO,hi,true_and]
theorem UM {n:Nat}:bnd none n=some (n:Int):=eqi rfl
theorem VE {q:IntKind}{n:Int}{dd:Nat}:bnd (some (.int q n)) dd=some n:=eqi rfl
theorem NY {x:Operand}:opW P (.unOp .neg t x) ty e h K=DF (ev e x) h K (aI P (.unOp .neg t x) ty e h K):=eqi rfl
theorem Sv {q:IntKind}{n:Int}{F:Prop}:DF (.int q n) h K F=(InK q (0-n)/\K (.int q (0-n)) h):=eqi rfl
theorem nA {a b:Operand}:opW P (.makeSlice t a b) ty e h K=FV P (P.underlying t) (ev e a) (ev e b) h K (aI P (.makeSlice t a b) ty e h K):=eqi rfl
def VC (P:Program)(el:TypeId)(z:Option Value)(l c:Int)(h:Heap)(K:Value->Heap->Prop)(F:Prop):Prop:=
 match z with
  |some z=>z.cells.size=szT P el/\0<szT P el/\0<=l/\l<=c/\c*iA P el<=281474976710656/\c<=9223372036854775807/\
   K (.slice (some ⟨h.size,0,none⟩) l.toNat c.toNat) (h.push (.cells (aZ c.toNat z.cells.toList).flatten.toArray el))
  |none=>F
theorem Uj {el:TypeId}{q q':IntKind}{l c:Int}{F:Prop}:FV P (some (.slice el)) (.int q l) (.int q' c) h K F=VC P el (dJ P el) l c h K F:=by simp only[FV,VC]
theorem QM {el:TypeId}{z:Value}{l c:Int}{F:Prop}:VC P el (some z) l c h K F=(z.cells.size=szT P el/\0<szT P el/\0<=l/\l<=c/\c*iA P el<=281474976710656/\c<=9223372036854775807/\
 K (.slice (some ⟨h.size,0,none⟩) l.toNat c.toNat) (h.push (.cells (aZ c.toNat z.cells.toList).flatten.toArray el))):=eqi rfl
theorem p9:opW P (.makeMap t none) ty e h K=K (.map (some h.size)) (h.push (.map #[] 0)):=eqi rfl
theorem LK {m x:Operand}{b:Bool}:opW P (.lookup t m x b) ty e h K=aI P (.lookup t m x b) ty e h K:=eqi rfl
theorem Cs {m x y:Operand}:opW P (.mapUpdate t m x y) ty e h K=aI P (.mapUpdate t m x y) ty e h K:=eqi rfl
theorem RZ {x:Operand}:opW P (.range t x) ty e h K=aI P (.range t x) ty e h K:=eqi rfl
theorem SI {x:Operand}{b:Bool}:opW P (.next x b) ty e h K=aI P (.next x b) ty e h K:=eqi rfl
theorem IM {v:Value}:jl P [] e [v] K h=K v h:=eqi rfl
theorem JW:jl P [] e [] K h=K (.tuple #[]) h:=eqi rfl
theorem Jw {v u:Value}{vs:List Value}:jl P [] e (v::u::vs) K h=K (.tuple (v::u::vs).toArray) h:=eqi rfl
theorem uq {i:Tmp}{rs:List ResultVar}{acc:List Value}:jl P (.tmp i::rs) e acc K h=jl P rs e (acc++[e.getD i undef]) K h:=eqi rfl
def YP (P:Program)(rs:List ResultVar)(e:Env)(acc:List Value)(K:Value->Heap->Prop):Value->Heap->Prop:=fun v h=>jl P rs e (acc++[v]) K h
theorem rU {i:Tmp}{rs:List ResultVar}{acc:List Value}:jl P (.cell i t::rs) e acc K h=fU P t (e.getD i undef) h (YP P rs e acc K):=eqi rfl
theorem zN {rs:List ResultVar}{acc:List Value}{v:Value}:YP P rs e acc K v h=jl P rs e (acc++[v]) K h:=eqi rfl
def TR (o:Option Obj)(i:Nat):Option Value:=match o with|some (.cells c _ _)=>c[i]? |_=>none
def UY (o:Option Obj)(i n:Nat):Option (List Value):=match o with|some (.cells c _ _)=>if i+n<=c.size then some ((c.toList.drop i).take n)else none|_=>none
def Xz (o:Option Obj):Option (List Value×TypeId):=match o with|some (.cells c t (lo,hi))=>if lo=0/\hi=0 then some (c.toList,t)else none|_=>none
theorem Hz {b o:Nat}:jL h (some ⟨b,o,none⟩)=TR h[b]? o:=by simp only[jL,TR];split<;>simp_all
theorem EG {b o n:Nat}:gm h (some ⟨b,o,none⟩) n=UY h[b]? o n:=by simp only[gm,UY];split<;>simp_all
theorem WQ {b:Nat}:Qt h b=Xz h[b]? :=eqi rfl
theorem MK {c:List Value}{ct:TypeId}{fr:Nat×Nat}{i:Nat}:TR (some (.cells c.toArray ct fr)) i=c[i]? :=by simp[TR]
theorem LC {c:List Value}{ct:TypeId}{fr:Nat×Nat}{i n:Nat}(hn:i+n<=c.length):UY (some (.cells c.toArray ct fr)) i n=some ((c.drop i).take n):=by simp[UY,hn]
theorem MS {c:List Value}{ct:TypeId}:Xz (some (.cells c.toArray ct (0,0)))=some (c,ct):=by simp[Xz]
theorem uo {o:Obj}{b:Nat}:(h.push o)[b]? =if b=h.size then some o else h[b]? :=iq
theorem Jy {x:Obj}{b:Nat}(hb:h[b]? =some x):(h.push o)[b]? =some x:=by
 have g:=(eO.1 hb).1;rw[iq,if_neg (by omega)];exact hb
theorem jD:(h.push o)[h.size]? =some o:=by simp
theorem Rh {o:Obj}:(h.push o).size=h.size+1:=by simp
theorem Fa {o:Obj}{c:List Value}{ct:TypeId}:nL (h.push o) h.size c ct=h.push (.cells c.toArray ct):=by
 unfold nL;apply Array.ext_getElem?;intro j;rw[Array.getElem?_setIfInBounds,iq,iq];by_cases g:h.size=j
 .subst g;simp
 .simp[g,Ne.symm g]
theorem Jj {b:Nat}{c:List Value}:(nL h b c ct).size=h.size:=by simp[nL]
theorem upd_same {b:Nat}{c:List Value}(hb:b<h.size):(nL h b c ct)[b]? =some (.cells c.toArray ct):=by simp[nL,hb]
structure Ext (h h':Heap):Prop where
 size:h.size<=h'.size
 old:∀b,b<h.size->h'[b]? =h[b]?
theorem Ext.refl (h:Heap):Ext h h:=⟨Nat.le_refl _,fun _ _=>rfl⟩
theorem Ext.trans {a b c:Heap}(x:Ext a b)(y:Ext b c):Ext a c:=⟨Nat.le_trans x.size y.size,fun i g=>(y.old i (bv g x.size)).trans (x.old i g)⟩
theorem Ext.push {h:Heap}(x:Ext h h')(o:Obj):Ext h (h'.push o):=⟨by have:=x.size;simp;omega,fun b g=>by rw[iq,if_neg (by have:=x.size;omega)];exact x.old b g⟩
theorem Ext.upd {h:Heap}(x:Ext h h'){b:Nat}(hb:h.size<=b)(c:List Value)(ct:TypeId):Ext h (nL h' b c ct):=
 ⟨by rw[Jj];exact x.size,fun i g=>by unfold nL;rw[ib (by omega)];exact x.old i g⟩
theorem Ext.get {h:Heap}(x:Ext h h'){b:Nat}(hb:h[b]? =some o):h'[b]? =some o:=(x.old b (eO.1 hb).1).trans hb
end
end eqs
section draw
variable {l:Option Nat}{P:Program}{ops:Array Oper}
def fH (P:Program)(w:World)(K:Value->World->Prop):Result Next->Prop
 | .ok (.value v) w'=>K v w'/\Rest w w'
 | .ok .skip w'=>K undef w'/\Rest w w'
 | .ok (.enter f args) w'=>Rest w w'/\Calls P f args w' fun e w''=>∃v,e= .returned v/\K v w''/\Rest w' w''
 | .ok (.round l f tmps asg body) w'=>Rest w w'/\RoundIn Fence.wide 0 P l f tmps asg body w' fun e w''=>∃v,e= .returned v/\K v w''/\Rest w' w''
 |_=>False
theorem eH {w:World}{K K':Value->World->Prop}{r:Result Next}(hk:∀v w',Rest w w'->K v w'->K' v w')(H:fH P w K r):fH P w K' r:=by
 unfold fH at *;split at H
 .exact⟨hk _ _ H.2 H.1,H.2⟩
 .exact⟨hk _ _ H.2 H.1,H.2⟩
 .exact⟨H.1,zk H.2 fun e B ⟨v,u,A,g⟩=>⟨v,u,hk _ _ (H.1.trans g) A,g⟩⟩
 .exact⟨H.1,xz H.2 fun e B ⟨v,u,A,g⟩=>⟨v,u,hk _ _ (H.1.trans g) A,g⟩⟩
 .exact H.elim
def Es (P:Program)(o:Oper)(a:Act)(w:World)(K:Value->World->Prop):Prop:=iX o.op=true/\fH P w K ((execOp a.eval o).run P w)
def opD (P:Program)(ops:Array Oper)(i:Nat)(K:Act->World->Prop)(a:Act)(w:World):Prop:=
 match ops[i]? with
 |none=>K a w
 |some o=>if fe o (yielded ops a.tmps)=true then Es P o a w (fun v w'=>K (a.put o.dst v) w')else K (a.put o.dst undef) w
def Sta (R:Heap->Heap->Prop):Prop:=(∀h:Heap,R h h)/\(∀a b c:Heap,R a b->R b c->R a c)/\(∀(h h':Heap) (b:Nat) (x:Obj),R h h'->h[b]? =some x->h'[b]? =some x)
def lQ (P:Program)(ops:Array Oper)(R:Heap->Heap->Prop)(G:Nat->Bool)(Q:Act->World->Prop):Nat->Array Bool->Act->World->Prop
 |0,listed,a,w=>∀w1,Rest w w1->R w.heap w1.heap->kC .any ops listed=[]/\Q a w1
 |n+1,listed,a,w=>∀w1,Rest w w1->R w.heap w1.heap->(kC .any ops listed=[]->Q a w1)/\
  ∀i∈kC .any ops listed,opD P ops i (fun a' w'=>(G i=true->R w1.heap w'.heap)/\Rest w1 w'/\lQ P ops R G Q n (listed.setIfInBounds i true) a' w') a w1
variable {R:Heap->Heap->Prop}{G:Nat->Bool}{Q:Act->World->Prop}
section
variable {o:Oper}{w w':World}
theorem oz (hS:Sta R){n:Nat}{listed:Array Bool}{a:Act}(hr:Rest w w')(hR:R w.heap w'.heap)(H:lQ P ops R G Q n listed a w):lQ P ops R G Q n listed a w':=by
 cases n with
 |zero=>exact fun A g u=>H A (hr.trans g) (hS.2.1 _ _ _ hR u)
 |succ n=>exact fun A g u=>H A (hr.trans g) (hS.2.1 _ _ _ hR u)
theorem mh {i:Nat}{K:Act->World->Prop}{Q':Exit->Act->World->Prop}{a:Act}(H:opD P ops i K a w):wpOpIn (fen l) 0 P ops Q' i K a w:=by
 unfold opD at H;unfold wpOpIn;cases ho:ops[i]? with
 |none=>simpa[ho]using H
 |some o=>
  simp only[ho]at H ⊢;split at H
  .rename_i J;simp only[J,if_true];refine⟨fun _ _=>trivial,?_⟩;obtain⟨U,H⟩:=H;rw[sO U];unfold fH at H;split at H
   .rename_i v w' g;rw[g];exact H.1
   .rename_i w' g;rw[g];exact H.1
   .rename_i f N w' g;rw[g];refine⟨fun h=>by simp[kU]at h,CallsIn.mono (oV l H.2) ?_⟩;rintro O L ⟨v,rfl,I,u⟩;exact I
   .rename_i V f B C A w' g;rw[g];refine⟨fun h=>by simp[kU]at h,xz (show RoundIn (fen l) 0 P V f B C A w' _ from H.2) ?_⟩;rintro O L ⟨v,rfl,I,u⟩;exact I
   .exact H.elim
  .rename_i J;simp only[J];exact⟨fun _ _=>trivial,H⟩
theorem jc (hS:Sta R){Q':Exit->Act->World->Prop}(hQ:∀a w,Q a w->Q' .normal a w):∀(n:Nat) (listed:Array Bool) (a:Act) (w:World),lQ P ops R G Q n listed a w->wpAnyIn (fen l) 0 P .any ops Q' n listed a w
 |0,listed,a,w,H=>⟨(H w (Rest.refl w) (hS.1 _)).1,hQ _ _ (H w (Rest.refl w) (hS.1 _)).2⟩
 |n+1,listed,a,w,H=>by
  have H:=H w (Rest.refl w) (hS.1 _);exact⟨fun u=>hQ _ _ (H.1 u),fun i A=>wpOpIn_mono (fun g w' h'=>jc hS hQ n _ g w' h'.2.2) (mh (H.2 i A))⟩
def Yd (P:Program)(ops:Array Oper)(R:Heap->Heap->Prop)(o:Oper)(v:Value)(a:Act)(w:World):Prop:=
 (fe o (yielded ops a.tmps)=true/\∀w',Rest w w'->R w.heap w'.heap->Es P o a w' (fun v' w''=>v'=v/\R w'.heap w''.heap))\/
 (fe o (yielded ops a.tmps)=false/\v=undef)
theorem Tg (hS:Sta R){v:Value}{a:Act}(hr:Rest w w')(hR:R w.heap w'.heap)(H:Yd P ops R o v a w):Yd P ops R o v a w':=by
 rcases H with⟨A,B⟩|h
 .exact .inl ⟨A,fun C u g=>B C (hr.trans u) (hS.2.1 _ _ _ hR g)⟩
 .exact .inr h
theorem zAZ {v:Value}{a a':Act}(H:Yd P ops R o v a w)(he:execOp a'.eval o=execOp a.eval o)(hw:fe o (yielded ops a'.tmps)=fe o (yielded ops a.tmps)):Yd P ops R o v a' w:=by
 unfold Yd Es at *;rw[he,hw];exact H
theorem ja (hS:Sta R){i:Nat}{oi:Oper}{v:Value}(hi:ops[i]? =some oi)(hsel:∀(j:Nat) (o:Oper) cs b,ops[j]? =some o->o.op≠.select cs b)(Bk:List Nat)(hBk:∀j∈Bk,j≠i/\∀oj,ops[j]? =some oj->∃e∈oj.after,ui .any e=true/\(e.on=i\/e.on∈Bk)):
 ∀(fuel:Nat) (listed:Array Bool) (a:Act) (w:World),
  (∀j oj,ops[j]? =some oj->j≠i->listed.getD j true=false->j∉Bk->oi.apart ops oj=true/\G j=true)->(∀j∈Bk,listed.getD j true=false)->
  i∈kC .any ops listed->Yd P ops R oi v a w->
  lQ P ops R G Q fuel (listed.setIfInBounds i true) (a.put oi.dst v) w->lQ P ops R G Q (fuel+1) listed a w:=by
 intro fuel;have self:∀(fuel:Nat) (listed:Array Bool) (a:Act) (w B:World),Rest w B->R w.heap B.heap->Yd P ops R oi v a w->
  lQ P ops R G Q fuel (listed.setIfInBounds i true) (a.put oi.dst v) w->opD P ops i (fun a' w'=>(G i=true->R B.heap w'.heap)/\Rest B w'/\lQ P ops R G Q fuel (listed.setIfInBounds i true) a' w') a B:=by
  intro fuel listed a w B A g hy H;unfold opD;simp only[hi];rcases hy with⟨hw,hy⟩|⟨hw,hv⟩
  .simp only[hw,if_true];obtain⟨hd,hs⟩:=hy B A g;refine⟨hd,eH ?_ hs⟩;rintro v' w'' N ⟨rfl,hR⟩;exact⟨fun _=>hR,N,oz hS (A.trans N) (hS.2.1 _ _ _ g hR) H⟩
  .simp only[hw];subst hv;exact⟨fun _=>hS.1 _,Rest.refl _,oz hS A g H⟩
 induction fuel with
 |zero=>
  intro listed a w _ hbl N hy H B A g;refine⟨fun h=>(by rw[h]at N;cases N),fun j hj=> ?_⟩;by_cases C:j=i
  .subst C;exact self 0 listed a w B A g hy H
  .have:=ready_mono hj C;rw[(H B A g).1]at this;cases this
 |succ fuel ih=>
  intro listed a w J hbl N hy H B A g;refine⟨fun h=>(by rw[h]at N;cases N),fun j hj=> ?_⟩;by_cases C:j=i
  .subst C;exact self (fuel+1) listed a w B A g hy H
  .have I:=(H B A g).2 j (ready_mono hj C);obtain⟨W,oj,V,hall⟩:=mem_ready.1 hj;have Z:j∉Bk:=fun hjB=>by
    obtain⟨e,he,hb,L⟩:=(hBk j hjB).2 oj V;have I:=hall e he hb;have h0:listed.getD e.on true=false:=by
     rcases L with L|L
     .rw[L];exact(mem_ready.1 N).1
     .exact hbl _ L
    rcases sD e.on listed.size with h'|h'
    .simp[h']at h0 I;rw[h0]at I;cases I
    .simp[BB h']at I
   obtain⟨hap,hGj⟩:=J j oj V C W Z;obtain⟨hp1,hp2,hp3⟩:=Oper.apart_spec hap;have hsj:∀cs b,oj.op≠.select cs b:=fun cs b=>hsel j oj cs b V
   have hsi:∀cs b,oi.op≠.select cs b:=fun cs b=>hsel i oi cs b hi
   have O:∀k ok,ops[k]? =some ok->k≠i->(listed.setIfInBounds j true).getD k true=false->
    k∉Bk->oi.apart ops ok=true/\G k=true:=fun k ok hk hki hun hno=>by
    refine J k ok hk hki ?_ hno;by_cases U:j=k
    .subst U;exact W
    .rw[getD_set_ne true U]at hun;exact hun
   have hbl':∀k∈Bk,(listed.setIfInBounds j true).getD k true=false:=fun k hk=>by
    have U:j≠k:=fun h=>Z (h▸hk)
    rw[getD_set_ne true U];exact hbl k hk
   have step:∀(u:Value) (w':World),Rest B w'->((G j=true->R B.heap w'.heap)/\Rest B w'/\lQ P ops R G Q fuel ((listed.setIfInBounds i true).setIfInBounds j true) ((a.put oi.dst v).put oj.dst u) w')->
    (G j=true->R B.heap w'.heap)/\Rest B w'/\lQ P ops R G Q (fuel+1) (listed.setIfInBounds j true) (a.put oj.dst u) w':=by
    rintro u w' hr' ⟨hg,hr2,hany⟩;refine⟨hg,hr2,ih (listed.setIfInBounds j true) (a.put oj.dst u) w' O hbl' (ready_mono N (Ne.symm C)) ?_ ?_⟩
    .exact zAZ (Tg hS (A.trans hr2) (hS.2.1 _ _ _ g (hg hGj)) hy) (execOp_put oi hsi a oj.dst u hp3) (wanted_put oi a oj.dst u hp3)
    .rw[zO _ _ C,<-Act.put_comm a v u hp2];exact hany
   unfold opD at I ⊢;simp only[V]at I ⊢;rw[wanted_put oj a oi.dst v hp1]at I;split
   .rename_i hw;simp only[hw,if_true]at I;refine⟨I.1,?_⟩;have h2:=I.2;rw[execOp_put oj hsj a oi.dst v hp1]at h2;exact eH (fun u w' hr' h3=>step u w' hr' h3) h2
   .rename_i hw;simp only[hw]at I;exact step undef B (Rest.refl _) I
def YdP (P:Program)(ops:Array Oper)(o:Oper)(v:Value)(a:Act)(w:World):Prop:=
 (fe o (yielded ops a.tmps)=true/\∀w',Rest w w'->Es P o a w' (fun v' w''=>v'=v/\w''.heap=w'.heap))\/
 (fe o (yielded ops a.tmps)=false/\v=undef)
theorem DV {v:Value}{a:Act}(hr:Rest w w')(H:YdP P ops o v a w):YdP P ops o v a w':=by
 rcases H with⟨u,A⟩|h
 .exact .inl ⟨u,fun B g=>A B (hr.trans g)⟩
 .exact .inr h
theorem TQ {v:Value}{a a':Act}(H:YdP P ops o v a w)(he:execOp a'.eval o=execOp a.eval o)(hw:fe o (yielded ops a'.tmps)=fe o (yielded ops a.tmps)):YdP P ops o v a' w:=by
 unfold YdP Es at *;rw[he,hw];exact H
theorem ig (hS:Sta R){i:Nat}{oi:Oper}{v:Value}(hi:ops[i]? =some oi)(hsel:∀(j:Nat) (o:Oper) cs b,ops[j]? =some o->o.op≠.select cs b)(Bk:List Nat)(hBk:∀j∈Bk,j≠i/\∀oj,ops[j]? =some oj->∃e∈oj.after,ui .any e=true/\(e.on=i\/e.on∈Bk)):
 ∀(fuel:Nat) (listed:Array Bool) (a:Act) (w:World),
  (∀j oj,ops[j]? =some oj->j≠i->listed.getD j true=false->j∉Bk->oi.apart ops oj=true)->(∀j∈Bk,listed.getD j true=false)->
  i∈kC .any ops listed->YdP P ops oi v a w->
  lQ P ops R G Q fuel (listed.setIfInBounds i true) (a.put oi.dst v) w->lQ P ops R G Q (fuel+1) listed a w:=by
 intro fuel;have self:∀(fuel:Nat) (listed:Array Bool) (a:Act) (w A:World),Rest w A->R w.heap A.heap->YdP P ops oi v a w->
  lQ P ops R G Q fuel (listed.setIfInBounds i true) (a.put oi.dst v) w->opD P ops i (fun a' w'=>(G i=true->R A.heap w'.heap)/\Rest A w'/\lQ P ops R G Q fuel (listed.setIfInBounds i true) a' w') a A:=by
  intro fuel listed a w A g B hy H;unfold opD;simp only[hi];rcases hy with⟨hw,hy⟩|⟨hw,hv⟩
  .simp only[hw,if_true];obtain⟨hd,hs⟩:=hy A g;refine⟨hd,eH ?_ hs⟩;rintro v' w'' N ⟨rfl,hE⟩;have hR:R A.heap w''.heap:=by rw[hE];exact hS.1 _
   exact⟨fun _=>hR,N,oz hS (g.trans N) (hS.2.1 _ _ _ B hR) H⟩
  .simp only[hw];subst hv;exact⟨fun _=>hS.1 _,Rest.refl _,oz hS g B H⟩
 induction fuel with
 |zero=>
  intro listed a w _ hbl N hy H A g B;refine⟨fun h=>(by rw[h]at N;cases N),fun j hj=> ?_⟩;by_cases C:j=i
  .subst C;exact self 0 listed a w A g B hy H
  .have:=ready_mono hj C;rw[(H A g B).1]at this;cases this
 |succ fuel ih=>
  intro listed a w J hbl N hy H A g B;refine⟨fun h=>(by rw[h]at N;cases N),fun j hj=> ?_⟩;by_cases C:j=i
  .subst C;exact self (fuel+1) listed a w A g B hy H
  .have I:=(H A g B).2 j (ready_mono hj C);obtain⟨W,oj,V,hall⟩:=mem_ready.1 hj;have Z:j∉Bk:=fun hjB=>by
    obtain⟨e,he,hb,L⟩:=(hBk j hjB).2 oj V;have I:=hall e he hb;have h0:listed.getD e.on true=false:=by
     rcases L with L|L
     .rw[L];exact(mem_ready.1 N).1
     .exact hbl _ L
    rcases sD e.on listed.size with h'|h'
    .simp[h']at h0 I;rw[h0]at I;cases I
    .simp[BB h']at I
   have hap:=J j oj V C W Z;obtain⟨hp1,hp2,hp3⟩:=Oper.apart_spec hap;have hsj:∀cs b,oj.op≠.select cs b:=fun cs b=>hsel j oj cs b V
   have hsi:∀cs b,oi.op≠.select cs b:=fun cs b=>hsel i oi cs b hi
   have O:∀k ok,ops[k]? =some ok->k≠i->(listed.setIfInBounds j true).getD k true=false->
    k∉Bk->oi.apart ops ok=true:=fun k ok hk hki hun hno=>by
    refine J k ok hk hki ?_ hno;by_cases U:j=k
    .subst U;exact W
    .rw[getD_set_ne true U]at hun;exact hun
   have hbl':∀k∈Bk,(listed.setIfInBounds j true).getD k true=false:=fun k hk=>by
    have U:j≠k:=fun h=>Z (h▸hk)
    rw[getD_set_ne true U];exact hbl k hk
   have step:∀(u:Value) (w':World),Rest A w'->((G j=true->R A.heap w'.heap)/\Rest A w'/\lQ P ops R G Q fuel ((listed.setIfInBounds i true).setIfInBounds j true) ((a.put oi.dst v).put oj.dst u) w')->
    (G j=true->R A.heap w'.heap)/\Rest A w'/\lQ P ops R G Q (fuel+1) (listed.setIfInBounds j true) (a.put oj.dst u) w':=by
    rintro u w' hr' ⟨hg,hr2,hany⟩;refine⟨hg,hr2,ih (listed.setIfInBounds j true) (a.put oj.dst u) w' O hbl' (ready_mono N (Ne.symm C)) ?_ ?_⟩
    .exact TQ (DV (g.trans hr2) hy) (execOp_put oi hsi a oj.dst u hp3) (wanted_put oi a oj.dst u hp3)
    .rw[zO _ _ C,<-Act.put_comm a v u hp2];exact hany
   unfold opD at I ⊢;simp only[V]at I ⊢;rw[wanted_put oj a oi.dst v hp1]at I;split
   .rename_i hw;simp only[hw,if_true]at I;refine⟨I.1,?_⟩;have h2:=I.2;rw[execOp_put oj hsj a oi.dst v hp1]at h2;exact eH (fun u w' hr' h3=>step u w' hr' h3) h2
   .rename_i hw;simp only[hw]at I;exact step undef A (Rest.refl _) I
def iP (P:Program)(R:Heap->Heap->Prop)(o:Op)(ty:TypeId)(e:Env)(h:Heap)(K:Value->Heap->Prop):Prop:=
 ∃v,(∀h',R h h'->aI P o ty e h' (fun v' h''=>v'=v/\R h' h''))/\K v h
def JP (P:Program)(R:Heap->Heap->Prop)(v:Value)(args:Array Value)(h:Heap)(K:Value->Heap->Prop)(F:Prop):Prop:=
 match v with
 | .func (.func f) first caps=>∃r,(∀h',R h h'->ak P f (first++args++caps) h' (fun v' h''=>v'=r/\R h' h''))/\K r h
 |_=>F
def dK (P:Program)(R:Heap->Heap->Prop)(o:Op)(ty:TypeId)(e:Env)(h:Heap)(K:Value->Heap->Prop):Prop:=
 match o with
 | .move x=>K (ev e x) h
 | .assign x=>K (ev e x) h
 | .pick c a b=>match ev e c with| .bool t=>K (if t then ev e a else ev e b) h|_=>False
 | .load t x=>fU P t (ev e x) h K
 | .fieldAddr s x f=>opW P (.fieldAddr s x f) ty e h K
 | .indexAddr t x i=>wQ P t (ev e x) (ev e i) h K
 | .nilCheck x=>match ev e x with| .pointer (some a)=>K (.pointer (some a)) h|_=>iP P R o ty e h K
 | .binOp op _ x y _=>dF op (ev e x) (ev e y) h K (iP P R o ty e h K)
 | .unOp .not _ x=>match ev e x with| .bool b=>K (.bool (!b)) h|_=>False
 | .convert s d x=>match ev e x,P.underlying d,P.underlying s with
   | .int _ n,some (.int k),some (.int _)=>InK k n/\K (.int k n) h
   |_,_,_=>iP P R o ty e h K
 | .extract x i=>match ev e x with
   | .tuple vs=>onV vs[i]? K h
   |_=>False
 | .makeFunc fn first caps=>K (.func fn (first.map (ev e)) (caps.map (ev e))) h
 | .call {callee:= .value f,args, ..}=>JP P R (ev e f) (args.map (ev e)) h K (iP P R o ty e h K)
 |o=>pvW P o e h K (iP P R o ty e h K)
end
variable {ty:TypeId}{e:Env}{h:Heap}{K:Value->Heap->Prop}
theorem Ns {op:BinOp}{a b:Value}{F:Prop}(H:dF op a b h K F):F\/∃v,K v h/\∀(t:TypeId) (x y:Operand) (w:World),(do eqGuard op t x y a b;binOp op t a b:Sem Value).run P w= .ok v w:=by
 unfold dF at H;split at H
 .rename_i k a k' b;have g:∀t x y w,(eqGuard op t x y (.int k a) (.int k' b)).run P w= .ok () w:=by
   intro t x y w;unfold eqGuard;cases op<;>simp
  right;split at H
  .obtain⟨v,A,u⟩:=rG (P:=P) (k':=k') H (.inl rfl);exact⟨v,A,fun t x y w=>by simp[g,u]⟩
  .obtain⟨v,A,u⟩:=rG (P:=P) (k':=k') H (.inr rfl);exact⟨v,A,fun t x y w=>by simp[g,u]⟩
  .rename_i B I;obtain⟨rfl,H⟩:=H;obtain⟨v,A,u⟩:=CO (P:=P) H B I;exact⟨v,A,fun t x y w=>by simp[g,u]⟩
 .rename_i s C;have g:∀t x y w,(eqGuard op t x y (.string s) (.string C)).run P w= .ok () w:=by
   intro t x y w;unfold eqGuard;cases op<;>simp
  unfold Qp at H;split at H
  .right;refine⟨_,H.2,fun t x y w=> ?_⟩;have:¬((s.size+C.size:Nat):Int)>IntKind.i64.max:=by
    have B:=H.1;have:IntKind.i64.max=9223372036854775807:=by decide
    omega
   simp only[aY,g,aN,binOp,zq,this,if_false,bE]
  .right;refine⟨_,H,fun t x y w=> ?_⟩;simp only[aY,g,aN,binOp,zq,bE,qi]
  .right;refine⟨_,H,fun t x y w=> ?_⟩;simp only[aY,g,aN,binOp,zq,bE,qi]
  .exact .inl H
 .exact .inl H
theorem J6 (hS:Sta R){t:TypeId}{v:Value}{h':Heap}(hR:R h h')(H:fU P t v h K):∃x,K x h/\fU P t v h (fun y _=>y=x)/\fU P t v h' (fun y _=>y=x):=by
 unfold fU at H ⊢;split at H
 case h_2=>exact H.elim
 rename_i p;have I:∀x,jL h p=some x->jL h' p=some x:=by
  intro x g;cases p with
  |none=>simp[jL]at g
  |some a=>
   unfold jL at g ⊢;cases hb:h[a.block]? with
   |none=>simp[hb]at g
   |some ob=>simp only[hb]at g;simp only[hS.2.2 _ _ _ _ hR hb];exact g
 have B:∀n x,gm h p n=some x->gm h' p n=some x:=by
  intro n x g;cases p with
  |none=>simp[gm]at g
  |some a=>
   unfold gm at g ⊢;cases hb:h[a.block]? with
   |none=>simp[hb]at g
   |some ob=>simp only[hb]at g;simp only[hS.2.2 _ _ _ _ hR hb];exact g
 cases hag:zF P t with
 |none=>simp[hag]at H
 |some b=>
  simp only[hag]at H;cases b with
  |true=>
   obtain⟨C,H⟩:=H;rw[oP]at H;obtain⟨cs,u,A⟩:=H;refine⟨_,A,?_,?_⟩
   .simp only[hag];exact⟨C,oP.2 ⟨cs,u,rfl⟩⟩
   .simp only[hag];exact⟨C,oP.2 ⟨cs,B _ _ u,rfl⟩⟩
  |false=>
   simp only at H;rw[je]at H;obtain⟨x,u,A⟩:=H;refine⟨_,A,?_,?_⟩
   .simp only[hag];exact je.2 ⟨x,u,rfl⟩
   .simp only[hag];exact je.2 ⟨x,I _ u,rfl⟩
theorem gT {o:Op}(hS:Sta R)(hd:iX o=true)(v:Value)(hk:K v h)
 (H:∀w:World,(execOp (ev e) {dst:=none,op:=o,type:=ty,pos:= "",after:= #[],guard:=none}).run P w= .ok (.value v) w):iP P R o ty e h K:=
 ⟨v,fun h' _=>aK hd v ⟨rfl,hS.1 _⟩ fun w _=>H w,hk⟩
theorem tV (hS:Sta R){o:Op}(H:dK P R o ty e h K):iP P R o ty e h K:=by
 have I:∀{o:Op},pvW P o e h K (iP P R o ty e h K)->iP P R o ty e h K:=fun H=>by
  rcases wU H with N|⟨hd,v,u,A⟩
  .exact N
  .exact gT hS hd v u fun w=>A ty w
 cases o
 case move x=>exact gT hS rfl _ H fun w=>rfl
 case assign x=>exact gT hS rfl _ H fun w=>rfl
 case pick c a b=>
  simp only[dK]at H;split at H
  .rename_i t ht;exact gT hS rfl _ H fun w=>by simp[execOp,ht,asBool]
  .exact H.elim
 case load t x=>
  obtain⟨y,u,h0,_⟩:=J6 (h':=h) hS (hS.1 _) (K:=K) (v:=ev e x) (t:=t) (P:=P) H;refine⟨y,fun h' O=> ?_,u⟩;obtain⟨z,hz,_,h2⟩:=J6 hS O h0;subst hz;obtain⟨v,hv,A⟩:=og h2;subst hv;exact aK rfl v ⟨rfl,hS.1 _⟩ fun w hw=>by simp[execOp,A w hw]
 case fieldAddr s x f=>
  simp only[dK,opW]at H;split at H
  .rename_i a U;obtain⟨hsp,H⟩:=H;rw[fJ]at H;obtain⟨off,B,u⟩:=H;unfold jG at B;split at B
   .rename_i fs hu;split at B
    .rename_i fd V;split at B
     .rename_i C;cases B;simp only[aF,decide_eq_true_eq]at C;obtain⟨inf,hi⟩:=bD.1 C.1;have Z:inf.size≠0:=by simpa[szT,hi]using C.2
      refine gT hS rfl _ u fun w=> ?_
      simp[execOp,U,LA,run_underlying hu,V,pq,fieldPlace,uj,sizeOf,typeInfo,hi,Z]
     .cases B
    .cases B
   .cases B
  .exact H.elim
 case indexAddr t x i=>
  obtain⟨v,u,A⟩:=wO (K:=K) (P:=P) H;exact gT hS rfl v u fun w=>by simp[execOp,A w]
 case nilCheck x=>
  simp only[dK]at H;split at H
  .rename_i a U;exact gT hS rfl _ H fun w=>by simp[execOp,U]
  .exact H
 case binOp op t x y yt=>
  rcases Ns (P:=P) H with hF|⟨v,u,A⟩
  .exact hF
  .exact gT hS rfl v u fun w=>by
    have:=A t x y w;simp only[execOp,aY]at this ⊢;rw[this];rfl
 case unOp op t x=>
  cases op<;>simp only[dK]at H<;>try exact I H
  split at H
  .rename_i b hb;exact gT hS rfl _ H fun w=>by simp[execOp,hb,Wy]
  .exact H.elim
 case convert s d x=>
  simp only[dK]at H;split at H
  .rename_i hx hu Z;obtain⟨W,u⟩:=H;refine gT hS rfl _ u fun w=> ?_
   simp[execOp,hx,convert,run_underlying hu,run_underlying Z,Conv.intToInt,jI W]
  .exact H
 case extract x i=>
  simp only[dK]at H;split at H
  .rename_i vs hv;rw[je]at H;obtain⟨v,N,u⟩:=H;exact gT hS rfl v u fun w=>by simp[execOp,hv,Lt,N]
  .exact H.elim
 case makeFunc fn first J=>exact gT hS rfl _ H fun w=>by simp[execOp,IJ]
 case call c=>
  obtain⟨L,args,ats⟩:=c;cases L with
  |value f=>
   simp only[dK,JP]at H;split at H
   .rename_i g first J hf
    obtain⟨r,A,u⟩:=H;refine⟨r,fun h' O=> ?_,u⟩;refine Bw (F:=False) ?_ (fun h=>h.elim);rw[hf];exact A h' O
   .exact H
  |_=>exact I H
 all_goals exact I H
def fK (P:Program)(o:Op)(e:Env)(h:Heap)(K:Value->Heap->Prop):Prop:=
 match o with
 | .move x=>K (ev e x) h
 | .assign x=>K (ev e x) h
 | .pick c a b=>match ev e c with| .bool t=>K (if t then ev e a else ev e b) h|_=>False
 | .fieldAddr s x f=>opW P (.fieldAddr s x f) 0 e h K
 | .indexAddr t x i=>wQ P t (ev e x) (ev e i) h K
 | .nilCheck x=>match ev e x with| .pointer (some a)=>K (.pointer (some a)) h|_=>False
 | .binOp op _ x y _=>dF op (ev e x) (ev e y) h K False
 | .unOp .not _ x=>match ev e x with| .bool b=>K (.bool (!b)) h|_=>False
 | .extract x i=>match ev e x with
   | .tuple vs=>onV vs[i]? K h
   |_=>False
 | .makeFunc fn first caps=>K (.func fn (first.map (ev e)) (caps.map (ev e))) h
 | .convert s d x=>match ev e x,P.underlying d,P.underlying s with
   | .int _ n,some (.int k),some (.int _)=>InK k n/\K (.int k n) h
   |_,_,_=>False
 |o=>pvW P o e h K False
theorem oD {o:Op}(H:fK P o e h K):iX o=true/\∃v,K v h/\∀w:World,(execOp (ev e) {dst:=none,op:=o,type:=ty,pos:= "",after:= #[],guard:=none}).run P w= .ok (.value v) w:=by
 have C:∀{o:Op},pvW P o e h K False->iX o=true/\∃v,K v h/\∀w:World,(execOp (ev e) {dst:=none,op:=o,type:=ty,pos:= "",after:= #[],guard:=none}).run P w= .ok (.value v) w:=fun H=>by
  rcases wU H with I|⟨hd,v,g,B⟩
  .exact I.elim
  .exact⟨hd,v,g,fun w=>B ty w⟩
 cases o
 case move x=>exact⟨rfl,_,H,fun w=>rfl⟩
 case assign x=>exact⟨rfl,_,H,fun w=>rfl⟩
 case pick c a b=>
  simp only[fK]at H;split at H
  .rename_i t ht;exact⟨rfl,_,H,fun w=>by simp[execOp,ht,asBool]⟩
  .exact H.elim
 case fieldAddr s x f=>
  simp only[fK,opW]at H;split at H
  .rename_i a J;obtain⟨hsp,H⟩:=H;rw[fJ]at H;obtain⟨off,u,g⟩:=H;unfold jG at u;split at u
   .rename_i fs U;split at u
    .rename_i fd L;split at u
     .rename_i A;cases u;simp only[aF,decide_eq_true_eq]at A;obtain⟨V,W⟩:=bD.1 A.1;have O:V.size≠0:=by simpa[szT,W]using A.2
      refine⟨rfl,_,g,fun w=> ?_⟩;simp[execOp,J,LA,run_underlying U,L,pq,fieldPlace,uj,sizeOf,typeInfo,W,O]
     .cases u
    .cases u
   .cases u
  .exact H.elim
 case indexAddr t x i=>
  obtain⟨v,g,B⟩:=wO (K:=K) (P:=P) H;exact⟨rfl,v,g,fun w=>by simp[execOp,B w]⟩
 case nilCheck x=>
  simp only[fK]at H;split at H
  .rename_i a J;exact⟨rfl,_,H,fun w=>by simp[execOp,J]⟩
  .exact H.elim
 case binOp op t x y yt=>
  rcases Ns (P:=P) H with Z|⟨v,g,B⟩
  .exact Z.elim
  .exact⟨rfl,v,g,fun w=>by
    have:=B t x y w;simp only[execOp,aY]at this ⊢;rw[this];rfl⟩
 case unOp op t x=>
  cases op<;>simp only[fK]at H<;>try exact C H
  split at H
  .rename_i b hb;exact⟨rfl,_,H,fun w=>by simp[execOp,hb,Wy]⟩
  .exact H.elim
 case extract x i=>
  simp only[fK]at H;split at H
  .rename_i vs hv;rw[je]at H;obtain⟨v,I,g⟩:=H;exact⟨rfl,v,g,fun w=>by simp[execOp,hv,Lt,I]⟩
  .exact H.elim
 case makeFunc fn first caps=>exact⟨rfl,_,H,fun w=>by simp[execOp,IJ]⟩
 case convert s d x=>
  simp only[fK]at H;split at H
  .rename_i hx U O;obtain⟨N,g⟩:=H;exact⟨rfl,_,g,fun w=>by simp[execOp,hx,convert,run_underlying U,run_underlying O,Conv.intToInt,jI N]⟩
  .exact H.elim
 all_goals exact C H
def bF (P:Program)(R:Heap->Heap->Prop)(all:List Oper):List (Nat×Nat)->aj->Env->List Deferred->Heap->Prop
 |[],k,e,d,h=>∀h',R h h'->k .normal e d h'
 |(i,0)::rest,k,e,d,h=>match all[i]? with
  |some o=>ax o.guard all e (fun e=>dK P R o.op o.type e h (fun v h'=>bF P R all rest k (aU e o.dst v) d h')) (fun e=>bF P R all rest k (aU e o.dst undef) d h)
  |none=>False
 |(i,1)::rest,k,e,d,h=>match all[i]? with
  |some o=>∀h',R h h'->ax o.guard all e (fun e=>opW P o.op o.type e h' (fun v h''=>bF P R all rest k (aU e o.dst v) d h'')) (fun e=>bF P R all rest k (aU e o.dst undef) d h')
  |none=>False
 |(i,3)::rest,k,e,d,h=>match all[i]? with
  |some o=>ax o.guard all e (fun e=>fK P o.op e h (fun v h'=>bF P R all rest k (aU e o.dst v) d h')) (fun e=>bF P R all rest k (aU e o.dst undef) d h)
  |none=>False
 |(i,_)::rest,k,e,d,h=>match all[i]? with
  |some o=>∀h',R h h'->ax o.guard all e (fun e=>opW P o.op o.type e h' (fun v h''=>R h' h''/\bF P R all rest k (aU e o.dst v) d h'')) (fun e=>bF P R all rest k (aU e o.dst undef) d h')
  |none=>False
def blk (all:List Oper)(listed:Array Bool)(i:Nat):Nat->Nat->List Nat->List Nat
 |0,_,acc=>acc
 |n+1,j,acc=>blk all listed i n (j+1) (if !(listed.getD j true)&&j !=i&&(match all[j]? with|some oj=>oj.after.any (fun e=>ui .any e&&(e.on==i||acc.contains e.on))|none=>false)then j::acc else acc)
def vQ (all:List Oper)(listed:Array Bool)(i:Nat)(Bk:List Nat):Bool:=
 Bk.all fun j=> !(listed.getD j true)&&j !=i&&(match all[j]? with|some oj=>oj.after.any (fun e=>ui .any e&&(e.on==i||Bk.contains e.on))|none=>true)
def iZ (G:Nat->Bool)(all:List Oper):List (Nat×Nat)->Array Bool->Bool
 |[],listed=>(kC .any all.toArray listed).isEmpty
 |(i,0)::rest,listed=>(kC .any all.toArray listed).contains i&&vQ all listed i (blk all listed i all.length 0 [])&&
  ((List.range all.length).all fun j=>j==i||listed.getD j true||(blk all listed i all.length 0 []).contains j||(G j&&(match all[i]?,all[j]? with|some oi,some oj=>oi.apart all.toArray oj|_,_=>true)))&&
  iZ G all rest (listed.setIfInBounds i true)
 |(i,3)::rest,listed=>(kC .any all.toArray listed).contains i&&vQ all listed i (blk all listed i all.length 0 [])&&
  ((List.range all.length).all fun j=>j==i||listed.getD j true||(blk all listed i all.length 0 []).contains j||(match all[i]?,all[j]? with|some oi,some oj=>oi.apart all.toArray oj|_,_=>true))&&
  iZ G all rest (listed.setIfInBounds i true)
 |(i,1)::rest,listed=> !(G i)&&decide (kC .any all.toArray listed=[i])&&iZ G all rest (listed.setIfInBounds i true)
 |(i,_)::rest,listed=>decide (kC .any all.toArray listed=[i])&&iZ G all rest (listed.setIfInBounds i true)
def EA (plan:List (Nat×Nat))(j:Nat):Bool:=plan.any fun s=>s.1==j&&s.2 !=1
theorem dO (hS:Sta R){all:List Oper}{k:aj}{w0:World}(hsel:RF all.toArray=true):∀(plan:List (Nat×Nat)) (listed:Array Bool) (e:Env) (d:List Deferred) (w:World),Rest w0 w->
 iZ G all plan listed=true->bF P R all plan k e d w.heap->
 lQ P all.toArray R G (fun a w'=>k .normal a.tmps.toList a.defers w'.heap/\Rest w0 w') plan.length listed ⟨e.toArray,d⟩ w
 |[],listed,e,d,w,hr,g,H=>fun U O hR1=>by
  refine⟨by simpa[iZ]using g,?_,hr.trans O⟩;simpa using H _ hR1
 |(i,0)::rest,listed,e,d,w,hr,g,H=>by
  simp only[iZ,aF]at g;obtain⟨⟨⟨B,hbk⟩,hG⟩,g⟩:=g;unfold bF at H;cases hi:all[i]? with
  |none=>simp[hi]at H
  |some o=>
   simp only[hi]at H;have J:all.toArray[i]? =some o:=by simpa using hi
   obtain⟨Z,hBke⟩:∃Z,Z=blk all listed i all.length 0 []:=⟨_,rfl⟩;rw[<-hBke]at hbk hG;have hb1:∀j∈Z,listed.getD j true=false:=fun j I=>by
    have:=bJ.1 hbk j I;simp only[aF,lh]at this;exact this.1.1
   have hb2:∀j∈Z,j≠i/\∀W,all.toArray[j]? =some W->∃e∈W.after,ui .any e=true/\(e.on=i\/e.on∈Z):=fun j I=>by
    have:=bJ.1 hbk j I;simp only[aF,bne_iff_ne,ne_eq]at this;refine⟨this.1.2,fun W hoj=> ?_⟩;have hj2:all[j]? =some W:=by simpa using hoj
    have u:=this.2;rw[hj2]at u;obtain⟨e,he,hb⟩:=Ll.1 u;simp only[aF,gL,beq_iff_eq,vE,decide_eq_true_eq]at hb;exact⟨e,he,hb.1,hb.2⟩
   have hfr:∀j W,all.toArray[j]? =some W->j≠i->listed.getD j true=false->j∉Z->o.apart all.toArray W=true/\G j=true:=by
    intro j W I hne hun hno;have hlt:j<all.length:=by have:=(eO.1 I).1;simpa using this
    have:=bJ.1 hG j (Sn.2 hlt);have hj2:all[j]? =some W:=by simpa using I
    simp only[hi,hj2,gL,aF,beq_iff_eq,hne,false_or,hun,eB,vE,decide_eq_true_eq,hno]at this;exact⟨this.2,this.1⟩
   have hrdy:i∈kC .any all.toArray listed:=by simpa using B
   rcases dB H o rfl with⟨V,hA⟩|⟨V,hB⟩
   .obtain⟨v,hv,hk⟩:=tV hS hA;refine ja hS J (wm hsel) Z hb2 rest.length listed _ w hfr hb1 hrdy (v:=v) ?_ ?_
    .refine .inl ⟨V,fun w' N hR'=> ?_⟩;have h1:=hv _ hR';refine⟨h1.1,?_⟩;have u:=h1.2 w' rfl;rw[dY,bW];unfold dQ at u;unfold fH;split at u
     .exact u
     .exact u
     .exact u
     .exact u
     .exact u.elim
    .rw[ay];exact dO hS hsel rest _ _ d w hr g hk
   .refine ja hS J (wm hsel) Z hb2 rest.length listed _ w hfr hb1 hrdy (v:=undef) (.inr ⟨V,rfl⟩) ?_;rw[ay];exact dO hS hsel rest _ _ d w hr g hB
 |(i,1)::rest,listed,e,d,w,hr,g,H=>by
  simp only[iZ,aF,decide_eq_true_eq,lh]at g;obtain⟨⟨hG,B⟩,g⟩:=g;unfold bF at H;cases hi:all[i]? with
  |none=>simp[hi]at H
  |some o=>
   simp only[hi]at H;have J:all.toArray[i]? =some o:=by simpa using hi
   intro U O hR1;have H:=H _ hR1;rw[B];refine⟨fun h=>by simp at h,fun j I=> ?_⟩;have I:j=i:=by simpa using I
   subst I;unfold opD;simp only[J];rcases dB H o rfl with⟨V,hA⟩|⟨V,hB⟩
   .simp only[V,if_true];have h1:=aM hA;refine⟨h1.1,?_⟩;have u:=h1.2 U rfl;rw[dY,bW];have C:∀v w',Rest U w'->bF P R all rest k (aU e o.dst v) d w'.heap->
     (G j=true->R U.heap w'.heap)/\Rest U w'/\lQ P all.toArray R G (fun a w'=>k .normal a.tmps.toList a.defers w'.heap/\Rest w0 w') rest.length (listed.setIfInBounds j true) ((Act.mk e.toArray d).put o.dst v) w':=by
     intro v w' N hk;refine⟨fun h=>(by rw[hG]at h;cases h),N,?_⟩;rw[ay];exact dO hS hsel rest _ _ d w' (hr.trans (O.trans N)) g hk
    unfold dQ at u;unfold fH;split at u
    .exact⟨C _ _ u.2 u.1,u.2⟩
    .exact⟨C _ _ u.2 u.1,u.2⟩
    .exact⟨u.1,zk u.2 fun x L ⟨v,hx,hv,A⟩=>⟨v,hx,C v L (u.1.trans A) hv,A⟩⟩
    .exact⟨u.1,xz u.2 fun x L ⟨v,hx,hv,A⟩=>⟨v,hx,C v L (u.1.trans A) hv,A⟩⟩
    .exact u.elim
   .simp only[V];refine⟨fun _=>hS.1 _,Rest.refl _,?_⟩;rw[ay];exact dO hS hsel rest _ _ d U (hr.trans O) g hB
 |(i,2)::rest,listed,e,d,w,hr,g,H=>by
  simp only[iZ,aF,decide_eq_true_eq]at g;obtain⟨B,g⟩:=g;unfold bF at H;cases hi:all[i]? with
  |none=>simp[hi]at H
  |some o=>
   simp only[hi]at H;have J:all.toArray[i]? =some o:=by simpa using hi
   intro U O hR1;have H:=H _ hR1;rw[B];refine⟨fun h=>by simp at h,fun j I=> ?_⟩;have I:j=i:=by simpa using I
   subst I;unfold opD;simp only[J];rcases dB H o rfl with⟨V,hA⟩|⟨V,hB⟩
   .simp only[V,if_true];have h1:=aM hA;refine⟨h1.1,?_⟩;have u:=h1.2 U rfl;rw[dY,bW];have C:∀v w',Rest U w'->(R U.heap w'.heap/\bF P R all rest k (aU e o.dst v) d w'.heap)->
     (G j=true->R U.heap w'.heap)/\Rest U w'/\lQ P all.toArray R G (fun a w'=>k .normal a.tmps.toList a.defers w'.heap/\Rest w0 w') rest.length (listed.setIfInBounds j true) ((Act.mk e.toArray d).put o.dst v) w':=by
     rintro v w' N ⟨hg,hk⟩;refine⟨fun _=>hg,N,?_⟩;rw[ay];exact dO hS hsel rest _ _ d w' (hr.trans (O.trans N)) g hk
    unfold dQ at u;unfold fH;split at u
    .exact⟨C _ _ u.2 u.1,u.2⟩
    .exact⟨C _ _ u.2 u.1,u.2⟩
    .exact⟨u.1,zk u.2 fun x L ⟨v,hx,hv,A⟩=>⟨v,hx,C v L (u.1.trans A) hv,A⟩⟩
    .exact⟨u.1,xz u.2 fun x L ⟨v,hx,hv,A⟩=>⟨v,hx,C v L (u.1.trans A) hv,A⟩⟩
    .exact u.elim
   .simp only[V];refine⟨fun _=>hS.1 _,Rest.refl _,?_⟩;rw[ay];exact dO hS hsel rest _ _ d U (hr.trans O) g hB
 |(i,3)::rest,listed,e,d,w,hr,g,H=>by
  simp only[iZ,aF]at g;obtain⟨⟨⟨B,hbk⟩,hG⟩,g⟩:=g;unfold bF at H;cases hi:all[i]? with
  |none=>simp[hi]at H
  |some o=>
   simp only[hi]at H;have J:all.toArray[i]? =some o:=by simpa using hi
   obtain⟨Z,hBke⟩:∃Z,Z=blk all listed i all.length 0 []:=⟨_,rfl⟩;rw[<-hBke]at hbk hG;have hb1:∀j∈Z,listed.getD j true=false:=fun j I=>by
    have:=bJ.1 hbk j I;simp only[aF,lh]at this;exact this.1.1
   have hb2:∀j∈Z,j≠i/\∀W,all.toArray[j]? =some W->∃e∈W.after,ui .any e=true/\(e.on=i\/e.on∈Z):=fun j I=>by
    have:=bJ.1 hbk j I;simp only[aF,bne_iff_ne,ne_eq]at this;refine⟨this.1.2,fun W hoj=> ?_⟩;have hj2:all[j]? =some W:=by simpa using hoj
    have u:=this.2;rw[hj2]at u;obtain⟨e,he,hb⟩:=Ll.1 u;simp only[aF,gL,beq_iff_eq,vE,decide_eq_true_eq]at hb;exact⟨e,he,hb.1,hb.2⟩
   have hfr:∀j W,all.toArray[j]? =some W->j≠i->listed.getD j true=false->j∉Z->o.apart all.toArray W=true:=by
    intro j W I hne hun hno;have hlt:j<all.length:=by have:=(eO.1 I).1;simpa using this
    have:=bJ.1 hG j (Sn.2 hlt);have hj2:all[j]? =some W:=by simpa using I
    simp only[hi,hj2,gL,aF,beq_iff_eq,hne,false_or,hun,eB,vE,decide_eq_true_eq,hno]at this;exact this
   have hrdy:i∈kC .any all.toArray listed:=by simpa using B
   rcases dB H o rfl with⟨V,hA⟩|⟨V,hB⟩
   .obtain⟨hd,v,hk,hv⟩:=oD (ty:=o.type) hA;refine ig hS J (wm hsel) Z hb2 rest.length listed _ w hfr hb1 hrdy (v:=v) ?_ ?_
    .refine .inl ⟨V,fun w' N=>⟨hd,?_⟩⟩;rw[dY,bW,hv w'];exact⟨⟨rfl,rfl⟩,Rest.refl _⟩
    .rw[ay];exact dO hS hsel rest _ _ d w hr g hk
   .refine ig hS J (wm hsel) Z hb2 rest.length listed _ w hfr hb1 hrdy (v:=undef) (.inr ⟨V,rfl⟩) ?_;rw[ay];exact dO hS hsel rest _ _ d w hr g hB
 |(i,c+4)::rest,listed,e,d,w,hr,g,H=>by
  simp only[iZ,aF,decide_eq_true_eq]at g;obtain⟨B,g⟩:=g;unfold bF at H;cases hi:all[i]? with
  |none=>simp[hi]at H
  |some o=>
   simp only[hi]at H;have J:all.toArray[i]? =some o:=by simpa using hi
   intro U O hR1;have H:=H _ hR1;rw[B];refine⟨fun h=>by simp at h,fun j I=> ?_⟩;have I:j=i:=by simpa using I
   subst I;unfold opD;simp only[J];rcases dB H o rfl with⟨V,hA⟩|⟨V,hB⟩
   .simp only[V,if_true];have h1:=aM hA;refine⟨h1.1,?_⟩;have u:=h1.2 U rfl;rw[dY,bW];have C:∀v w',Rest U w'->(R U.heap w'.heap/\bF P R all rest k (aU e o.dst v) d w'.heap)->
     (G j=true->R U.heap w'.heap)/\Rest U w'/\lQ P all.toArray R G (fun a w'=>k .normal a.tmps.toList a.defers w'.heap/\Rest w0 w') rest.length (listed.setIfInBounds j true) ((Act.mk e.toArray d).put o.dst v) w':=by
     rintro v w' N ⟨hg,hk⟩;refine⟨fun _=>hg,N,?_⟩;rw[ay];exact dO hS hsel rest _ _ d w' (hr.trans (O.trans N)) g hk
    unfold dQ at u;unfold fH;split at u
    .exact⟨C _ _ u.2 u.1,u.2⟩
    .exact⟨C _ _ u.2 u.1,u.2⟩
    .exact⟨u.1,zk u.2 fun x L ⟨v,hx,hv,A⟩=>⟨v,hx,C v L (u.1.trans A) hv,A⟩⟩
    .exact⟨u.1,xz u.2 fun x L ⟨v,hx,hv,A⟩=>⟨v,hx,C v L (u.1.trans A) hv,A⟩⟩
    .exact u.elim
   .simp only[V];refine⟨fun _=>hS.1 _,Rest.refl _,?_⟩;rw[ay];exact dO hS hsel rest _ _ d U (hr.trans O) g hB
theorem zB9 (hm:P.follows .mixedOrders=true)(hS:Sta R){id:Nat}{all:List Oper}{k:aj}{d:List Deferred}(plan:List (Nat×Nat))
 (hsel:RF all.toArray=true) (hlen:plan.length=all.length) (hok:iZ (EA plan) all plan (xG all.length false)=true)
 (H:bF P R all plan k e d h):WP l P (.region id all.toArray true) k e d h:=by
 intro w B;subst B;refine wpIn_region_any hm ?_;have g:=dO (w0:=w) (G:=EA plan) hS hsel plan _ e d {w with drawn:=w.drawn+1} ⟨rfl,rfl,rfl⟩ hok H;rw[hlen]at g;have u:=jc (l:=l) (Q':=fun x a w'=>k x a.tmps.toList a.defers w'.heap/\Rest w w') hS (fun a w' A=>A) _ _ _ _ g;simpa using u
def EqH (a b:Heap):Prop:=b=a
theorem zBp:Sta EqH:=⟨fun _=>rfl,fun _ _ _ h k=>Eq.trans k h,fun _ _ _ _ h k=>by rw[show _=_ from h];exact k⟩
theorem zBc:Sta Ext:=⟨Ext.refl,fun _ _ _ h k=>h.trans k,fun _ _ _ _ h k=>h.get k⟩
section planeqs
variable {all:List Oper}{rest:List (Nat×Nat)}{k:aj}{d:List Deferred}{dst:Option Tmp}{op:Op}{pos:String}{after:Array Edge}{i j:Nat}{want:Bool}{s:Tmp}{p:Prop}[Decidable p]{vs:Array Value}{t:TypeId}{b:Bool}
def lm (P:Program)(R:Heap->Heap->Prop)(all:List Oper)(rest:List (Nat×Nat))(k:aj)(dst:Option Tmp)(e:Env)(d:List Deferred):Value->Heap->Prop:=fun v h=>bF P R all rest k (aU e dst v) d h
theorem Uw {v:Value}:lm P R all rest k dst e d v h=bF P R all rest k (aU e dst v) d h:=eqi rfl
def hvK (R:Heap->Heap->Prop)(k:aj)(e:Env)(d:List Deferred)(h:Heap):Prop:=∀h',R h h'->k .normal e d h'
theorem PX:bF P R all [] k e d h=hvK R k e d h:=eqi rfl
theorem Ye:hvK EqH k e d h=k .normal e d h:=propext ⟨fun H=>H h rfl,fun H h' g=>by rw[show h'=h from g];exact H⟩
def gq (P:Program)(R:Heap->Heap->Prop)(v:Value)(s:Tmp)(want:Bool)(op:Op)(ty:TypeId)(all:List Oper)(rest:List (Nat×Nat))(k:aj)(dst:Option Tmp)(e:Env)(d:List Deferred)(h:Heap):Prop:=
 au v (fun b=>if b=want then dK P R op ty (e.set s (.bool b)) h (lm P R all rest k dst (e.set s (.bool b)) d)else bF P R all rest k (aU (e.set s (.bool b)) dst undef) d h) (bF P R all rest k (aU e dst undef) d h)
def gqo (P:Program)(R:Heap->Heap->Prop)(s:Option Tmp)(want:Bool)(op:Op)(ty:TypeId)(all:List Oper)(rest:List (Nat×Nat))(k:aj)(dst:Option Tmp)(e:Env)(d:List Deferred)(h:Heap):Prop:=
 match s with|some s=>gq P R (e.getD s undef) s want op ty all rest k dst e d h|none=>bF P R all rest k (aU e dst undef) d h
def stq (P:Program)(R:Heap->Heap->Prop)(o:Option Oper)(all:List Oper)(rest:List (Nat×Nat))(k:aj)(e:Env)(d:List Deferred)(h:Heap):Prop:=
 match o with
 |some o=>ax o.guard all e (fun e=>dK P R o.op o.type e h (fun v h'=>bF P R all rest k (aU e o.dst v) d h')) (fun e=>bF P R all rest k (aU e o.dst undef) d h)
 |none=>False
theorem Gv:bF P R all ((i,0)::rest) k e d h=stq P R all[i]? all rest k e d h:=by simp only[bF,stq]
theorem QI:stq P R (some ⟨dst,op,ty,pos,after,none⟩) all rest k e d h=dK P R op ty e h (lm P R all rest k dst e d):=eqi rfl
theorem Pq:stq P R (some ⟨dst,op,ty,pos,after,some (j,want)⟩) all rest k e d h=gqo P R (fQ all j) want op ty all rest k dst e d h:=by
 simp only[stq,ax,gqo];cases fQ all j<;>rfl
theorem Tf:gqo P R (some s) want op ty all rest k dst e d h=gq P R (e.getD s undef) s want op ty all rest k dst e d h:=eqi rfl
theorem zBJ:gq P R (.bool true) s true op ty all rest k dst e d h=dK P R op ty (e.set s (.bool true)) h (lm P R all rest k dst (e.set s (.bool true)) d):=by simp[gq,au]
theorem zBE:gq P R (.bool false) s false op ty all rest k dst e d h=dK P R op ty (e.set s (.bool false)) h (lm P R all rest k dst (e.set s (.bool false)) d):=by simp[gq,au]
theorem zA1:gq P R (.bool true) s false op ty all rest k dst e d h=bF P R all rest k (aU (e.set s (.bool true)) dst undef) d h:=by simp[gq,au]
theorem zA9:gq P R (.bool false) s true op ty all rest k dst e d h=bF P R all rest k (aU (e.set s (.bool false)) dst undef) d h:=by simp[gq,au]
theorem UQ {w:Bool}:gq P R (.tuple vs) s w op ty all rest k dst e d h=bF P R all rest k (aU e dst undef) d h:=by simp[gq,au]
theorem TE:gq P R (.bool (decide p)) s true op ty all rest k dst e d h=((p->dK P R op ty (e.set s (.bool true)) h (lm P R all rest k dst (e.set s (.bool true)) d))/\(¬p->bF P R all rest k (aU (e.set s (.bool false)) dst undef) d h)):=by
 by_cases g:p<;>simp[gq,au,g]
theorem U2:gq P R (.bool (decide p)) s false op ty all rest k dst e d h=((p->bF P R all rest k (aU (e.set s (.bool true)) dst undef) d h)/\(¬p->dK P R op ty (e.set s (.bool false)) h (lm P R all rest k dst (e.set s (.bool false)) d))):=by
 by_cases g:p<;>simp[gq,au,g]
theorem RG:gq P R (.bool (!decide p)) s true op ty all rest k dst e d h=((p->bF P R all rest k (aU (e.set s (.bool false)) dst undef) d h)/\(¬p->dK P R op ty (e.set s (.bool true)) h (lm P R all rest k dst (e.set s (.bool true)) d))):=by
 by_cases g:p<;>simp[gq,au,g]
theorem Pn:gq P R (.bool (!decide p)) s false op ty all rest k dst e d h=((p->dK P R op ty (e.set s (.bool false)) h (lm P R all rest k dst (e.set s (.bool false)) d))/\(¬p->bF P R all rest k (aU (e.set s (.bool true)) dst undef) d h)):=by
 by_cases g:p<;>simp[gq,au,g]
def sts (P:Program)(o:Option Oper)(all:List Oper)(rest:List (Nat×Nat))(k:aj)(e:Env)(d:List Deferred)(h:Heap):Prop:=
 match o with
 |some o=>ax o.guard all e (fun e=>opW P o.op o.type e h (fun v h''=>bF P EqH all rest k (aU e o.dst v) d h'')) (fun e=>bF P EqH all rest k (aU e o.dst undef) d h)
 |none=>False
theorem KT:bF P EqH all ((i,1)::rest) k e d h=sts P all[i]? all rest k e d h:=by
 simp only[bF,sts];cases all[i]? with
 |none=>rfl
 |some o=>exact propext ⟨fun H=>H h rfl,fun H h' g=>by rw[show h'=h from g];exact H⟩
theorem QF:sts P (some ⟨dst,op,ty,pos,after,none⟩) all rest k e d h=opW P op ty e h (lm P EqH all rest k dst e d):=eqi rfl
theorem Rj {o:Oper}(ho:all[i]? =some o)(hg:o.guard=none)(H:∀h',Ext h h'->opW P o.op o.type e h' (lm P Ext all rest k o.dst e d)):bF P Ext all ((i,1)::rest) k e d h:=by
 simp only[bF,ho,hg];exact H
theorem Qf {x:Operand}:dK P R (.move x) ty e h K=K (ev e x) h:=eqi rfl
theorem Ip {x:Operand}:dK P R (.assign x) ty e h K=K (ev e x) h:=eqi rfl
theorem P6 {c a b:Operand}:dK P R (.pick c a b) ty e h K=pkW (ev e c) (ev e a) (ev e b) h K:=eqi rfl
theorem Qc {x:Operand}:dK P R (.load t x) ty e h K=fU P t (ev e x) h K:=eqi rfl
theorem AO {s:TypeId}{x:Operand}{f:Nat}:dK P R (.fieldAddr s x f) ty e h K=faW (ev e x) (jG P s f) h K:=eqi rfl
theorem CR {x i:Operand}:dK P R (.indexAddr t x i) ty e h K=wQ P t (ev e x) (ev e i) h K:=eqi rfl
theorem Cg {x:Operand}:dK P R (.nilCheck x) ty e h K=ncW (ev e x) (iP P R (.nilCheck x) ty e h K) h K:=by simp only[dK,ncW]
theorem MJ {op:BinOp}{x y:Operand}{yt:TypeId}:dK P R (.binOp op t x y yt) ty e h K=dF op (ev e x) (ev e y) h K (iP P R (.binOp op t x y yt) ty e h K):=eqi rfl
theorem Sd {x:Operand}:dK P R (.unOp .not t x) ty e h K=ntW (ev e x) h K:=eqi rfl
theorem QL {s u:TypeId}{x:Operand}:dK P R (.convert s u x) ty e h K=cvW (ev e x) (P.underlying u) (P.underlying s) (iP P R (.convert s u x) ty e h K) h K:=by simp only[dK,cvW]
theorem Fe {x:Operand}{i:Nat}:dK P R (.extract x i) ty e h K=exW (ev e x) i h K:=eqi rfl
theorem Cv {fn:Fn}{first caps:Array Operand}:dK P R (.makeFunc fn first caps) ty e h K=K (.func fn (first.map (ev e)) (caps.map (ev e))) h:=eqi rfl
def cQ (P:Program)(R:Heap->Heap->Prop)(f:FuncId)(args:Array Value)(h:Heap)(K:Value->Heap->Prop):Prop:=∃r,(∀h',R h h'->ak P f args h' (fun v' h''=>v'=r/\R h' h''))/\K r h
theorem Qq {f:Operand}{args:Array Operand}{ats:Array TypeId}:dK P R (.call ⟨.value f,args,ats⟩) ty e h K=JP P R (ev e f) (args.map (ev e)) h K (iP P R (.call ⟨.value f,args,ats⟩) ty e h K):=eqi rfl
theorem MM {f:FuncId}{first caps args:Array Value}{F:Prop}:JP P R (.func (.func f) first caps) args h K F=cQ P R f (first++args++caps) h K:=eqi rfl
theorem GK {b:Builtin}{args:Array Operand}{ats:Array TypeId}:dK P R (.call ⟨.builtin b,args,ats⟩) ty e h K=lZ b (args.map (ev e)).toList ((ats[0]?).bind P.underlying) h K (iP P R (.call ⟨.builtin b,args,ats⟩) ty e h K):=eqi rfl
theorem K9 {parts:Array (Nat×Operand)}:dK P R (.build t parts) ty e h K=Ci (jh P t) (dJ P t) (mF P t) (parts.map fun(i,x)=>(i,ev e x)).toList h K (iP P R (.build t parts) ty e h K):=by
 simp only[dK,pvW,NK,Ci]
theorem NL {x i:Operand}:dK P R (.index t x i) ty e h K=Ct (ev e x) (ev e i) (P.underlying t) h K (iP P R (.index t x i) ty e h K):=eqi rfl
theorem ML {x:Operand}{f:Nat}:dK P R (.field t x f) ty e h K=BX P (ev e x) (mH P t f) h K (iP P R (.field t x f) ty e h K):=eqi rfl
theorem LX {x:Operand}{a b c:Option Operand}:dK P R (.slice t x a b c) ty e h K=ru P (ev e x) (P.underlying t) (a.map (ev e)) (b.map (ev e)) (c.map (ev e)) h K (iP P R (.slice t x a b c) ty e h K):=eqi rfl
theorem Tk {x:Operand}:dK P R (.unOp .neg t x) ty e h K=DF (ev e x) h K (iP P R (.unOp .neg t x) ty e h K):=eqi rfl
theorem Hq {m x:Operand}{b:Bool}:dK P R (.lookup t m x b) ty e h K=iP P R (.lookup t m x b) ty e h K:=eqi rfl
theorem zI {n:Nat}{parts:Array (Nat×Operand)}:dK P R (.buildSlice t n parts) ty e h K=iP P R (.buildSlice t n parts) ty e h K:=eqi rfl
def stp (P:Program)(R:Heap->Heap->Prop)(o:Option Oper)(all:List Oper)(rest:List (Nat×Nat))(k:aj)(e:Env)(d:List Deferred)(h:Heap):Prop:=
 match o with
 |some o=>ax o.guard all e (fun e=>fK P o.op e h (fun v h'=>bF P R all rest k (aU e o.dst v) d h')) (fun e=>bF P R all rest k (aU e o.dst undef) d h)
 |none=>False
theorem Mw:bF P R all ((i,3)::rest) k e d h=stp P R all[i]? all rest k e d h:=by simp only[bF,stp]
theorem Pd:stp P R (some ⟨dst,op,ty,pos,after,none⟩) all rest k e d h=fK P op e h (lm P R all rest k dst e d):=eqi rfl
theorem QO {x:Operand}:fK P (.move x) e h K=K (ev e x) h:=eqi rfl
theorem Gm {x:Operand}:fK P (.assign x) e h K=K (ev e x) h:=eqi rfl
theorem QA {c a b:Operand}:fK P (.pick c a b) e h K=pkW (ev e c) (ev e a) (ev e b) h K:=eqi rfl
theorem BM {s:TypeId}{x:Operand}{f:Nat}:fK P (.fieldAddr s x f) e h K=faW (ev e x) (jG P s f) h K:=eqi rfl
theorem CB {x i:Operand}:fK P (.indexAddr t x i) e h K=wQ P t (ev e x) (ev e i) h K:=eqi rfl
theorem Cf {x:Operand}:fK P (.nilCheck x) e h K=ncW (ev e x) False h K:=by simp only[fK,ncW]
theorem Lm {op:BinOp}{x y:Operand}{yt:TypeId}:fK P (.binOp op t x y yt) e h K=dF op (ev e x) (ev e y) h K False:=eqi rfl
theorem UR {x:Operand}:fK P (.unOp .not t x) e h K=ntW (ev e x) h K:=eqi rfl
theorem Ej {x:Operand}{i:Nat}:fK P (.extract x i) e h K=exW (ev e x) i h K:=eqi rfl
theorem Cj {fn:Fn}{first caps:Array Operand}:fK P (.makeFunc fn first caps) e h K=K (.func fn (first.map (ev e)) (caps.map (ev e))) h:=eqi rfl
theorem QG {s u:TypeId}{x:Operand}:fK P (.convert s u x) e h K=cvW (ev e x) (P.underlying u) (P.underlying s) False h K:=by simp only[fK,cvW]
theorem GV {b:Builtin}{args:Array Operand}{ats:Array TypeId}:fK P (.call ⟨.builtin b,args,ats⟩) e h K=lZ b (args.map (ev e)).toList ((ats[0]?).bind P.underlying) h K False:=eqi rfl
theorem K6 {parts:Array (Nat×Operand)}:fK P (.build t parts) e h K=Ci (jh P t) (dJ P t) (mF P t) (parts.map fun(i,x)=>(i,ev e x)).toList h K False:=by
 simp only[fK,pvW,NK,Ci]
theorem L9 {x i:Operand}:fK P (.index t x i) e h K=Ct (ev e x) (ev e i) (P.underlying t) h K False:=eqi rfl
theorem K7 {x:Operand}{f:Nat}:fK P (.field t x f) e h K=BX P (ev e x) (mH P t f) h K False:=eqi rfl
theorem Ky {x:Operand}{a b c:Option Operand}:fK P (.slice t x a b c) e h K=ru P (ev e x) (P.underlying t) (a.map (ev e)) (b.map (ev e)) (c.map (ev e)) h K False:=eqi rfl
theorem SS {x:Operand}:fK P (.unOp .neg t x) e h K=DF (ev e x) h K False:=eqi rfl
end planeqs
end draw
section loops
variable {l:Option Nat}{P:Program}
def mkE (e:Env):List Nat->(Nat->Value)->Env
 |[],_=>e
 |i::ws,g=>(mkE e ws g).set i (g i)
theorem WV {e:Env}{g:Nat->Value}:mkE e [] g=e:=eqi rfl
theorem Su {e:Env}{g:Nat->Value}{i:Nat}{ws:List Nat}:mkE e (i::ws) g=(mkE e ws g).set i (g i):=eqi rfl
def FJ (e0:Env)(d0:List Deferred)(ws:List Nat)(I:(Nat->Value)->Heap->Prop)(μ:(Nat->Value)->Heap->Nat)(n:Nat)(e:Env)(d:List Deferred)(h:Heap):Prop:=
 d=d0/\e=mkE e0 ws (fun i=>e.getD i undef)/\I (fun i=>e.getD i undef) h/\μ (fun i=>e.getD i undef) h<n
theorem DC (e:Env)(i:Nat):e.set i (e.getD i undef)=e:=by
 apply pV;intro j;rw[rX];split
 .rename_i h;subst h;split
  .rename_i h;simp[rT,aW h]
  .rename_i h;simp[mI (Nat.le_of_not_lt h)]
 .rfl
theorem Bp (e:Env):∀ws,mkE e ws (fun i=>e.getD i undef)=e
 |[]=>rfl
 |i::ws=>by rw[mkE,Bp e ws,DC]
theorem zAi {c:Code}{k:aj}{e:Env}{d:List Deferred}{h:Heap}(ws:List Nat)(I:(Nat->Value)->Heap->Prop)(μ:(Nat->Value)->Heap->Nat)
 (h0:I (fun i=>e.getD i undef) h)
 (round:∀g h',I g h'->exec l P c (iC (FJ e d ws I μ (μ g h')) k) (mkE e ws g) d h'):WP l P (.loop c) k e d h:=by
 intro w N;refine wpIn_loop (fun a w'=>(a.defers=d/\a.tmps.toList=mkE e ws (fun i=>a.tmps.toList.getD i undef)/\I (fun i=>a.tmps.toList.getD i undef) w'.heap)/\Rest w w')
  (fun a w'=>μ (fun i=>a.tmps.toList.getD i undef) w'.heap) ⟨⟨rfl,by rw[Bp],by subst N;simpa using h0⟩,Rest.refl w⟩ ?_
 rintro a w' ⟨⟨C,B,L⟩,J⟩;have u:=round _ w'.heap L;rw[<-B,<-C]at u;have u:=dI _ _ _ _ _ u w' rfl;rw[dA]at u;refine wpIn_mono u ?_;rintro x U O ⟨H,A⟩;cases x with
 |normal=>
  obtain⟨q1,q2,q3,q4⟩:=H;exact⟨⟨⟨q1.trans C,q2,q3⟩,J.trans A⟩,q4⟩
 |_=>exact⟨H,J.trans A⟩
end loops
section mono
variable {l:Option Nat}{P:Program}{ty:TypeId}{e:Env}{h:Heap}{K K':Value->Heap->Prop}{F F':Prop}
theorem tK {t:TypeId}{v:Value}(hk:∀v h,K v h->K' v h)(H:fU P t v h K):fU P t v h K':=by
 unfold fU onC onV at *
 repeat' split at H
 all_goals first|exact H.elim|(simp_all;done)|exact hk _ _ H|exact⟨H.1,hk _ _ H.2⟩|exact H.2.elim
theorem Iq {t:TypeId}{p v:Value}(hk:∀v h,K v h->K' v h)(H:kw P t p v h K):kw P t p v h K':=by
 unfold kw stK at *;split at H
 .refine⟨H.1,H.2.1,H.2.2.1,?_⟩;have H:=H.2.2.2;split at H
  .exact⟨H.1,hk _ _ H.2⟩
  .exact H.elim
 .exact H.elim
theorem Pe {t:TypeId}{x i:Value}(hk:∀v h,K v h->K' v h)(H:wQ P t x i h K):wQ P t x i h K':=by
 unfold wQ at *;split at H
 .split at H
  .exact⟨H.1,H.2.1,H.2.2.1,hk _ _ H.2.2.2⟩
  .exact⟨H.1,H.2.1,hk _ _ H.2.2⟩
  .exact H.elim
 .exact H.elim
theorem wP {op:BinOp}{k:IntKind}{a b:Int}(hk:∀v h,K v h->K' v h)(H:fI op k a b h K):fI op k a b h K':=by
 cases op<;>simp only[fI]at * <;>first|exact hk _ _ H|exact⟨H.1,hk _ _ H.2⟩|exact⟨H.1,H.2.1,hk _ _ H.2.2⟩|exact⟨H.1,H.2.1,H.2.2.1,hk _ _ H.2.2.2⟩
theorem QB {op:BinOp}{x y:Value}(hk:∀v h,K v h->K' v h)(hF:F->F')(H:dF op x y h K F):dF op x y h K' F':=by
 unfold dF Qp at *;split at H
 .split at H
  .exact wP hk H
  .exact wP hk H
  .exact⟨H.1,wP hk H.2⟩
 .split at H
  .exact⟨H.1,hk _ _ H.2⟩
  .exact hk _ _ H
  .exact hk _ _ H
  .exact hF H
 .exact hF H
theorem IZ {o:Option Value}(hk:∀v h,K v h->K' v h)(H:onV o K h):onV o K' h:=by
 unfold onV at *;split at H<;>first|exact hk _ _ H|exact H.elim
theorem UJ {o:Option (List Value)}(hk:∀v h,K v h->K' v h)(H:onC o K h):onC o K' h:=by
 unfold onC at *;split at H<;>first|exact hk _ _ H|exact H.elim
theorem Rx {o:Op}(hk:∀v h,K v h->K' v h)(hF:F->F')(H:pvW P o e h K F):pvW P o e h K' F':=by
 unfold pvW at *;split at H
 .unfold lZ at *;split at H<;>first|exact hk _ _ H|exact hF H
 .unfold NK at *;split at H
  .exact UJ hk H
  .exact hF H
 .unfold ru at *;split at H
  .split at H
   .exact⟨H.1,H.2.1,H.2.2.1,hk _ _ H.2.2.2⟩
   .exact H.elim
  .split at H
   .exact⟨H.1,H.2.1,H.2.2.1,H.2.2.2.1,H.2.2.2.2.1,hk _ _ H.2.2.2.2.2⟩
   .exact H.elim
  .split at H
   .exact⟨H.1,H.2.1,H.2.2.1,H.2.2.2.1,H.2.2.2.2.1,hk _ _ H.2.2.2.2.2⟩
   .exact H.elim
  .exact hF H
 .unfold Ct at *;split at H
  .exact⟨H.1,hk _ _ H.2⟩
  .exact hF H
 .unfold BX nT at *;split at H
  .split at H
   .exact⟨H.1,hk _ _ H.2⟩
   .exact IZ hk H
   .exact H.elim
  .exact hF H
 .unfold DF at *;split at H
  .exact⟨H.1,hk _ _ H.2⟩
  .exact hF H
 .exact hF H
theorem Kh {v:Value}{args:Array Value}(hk:∀v h,K v h->K' v h)(hF:F->F')(H:qB P v args h K F):qB P v args h K' F':=by
 unfold qB at *;split at H
 .exact H.mono hk
 .exact hF H
theorem Qb {o:Op}(hk:∀v h,K v h->K' v h)(H:zH P o ty e h K):zH P o ty e h K':=by
 unfold zH at *;split at H
 .unfold Ey at *;split at H
  .split at H
   .refine⟨H.1,H.2.1,H.2.2.1,?_⟩;have H:=H.2.2.2;rw[fJ]at H ⊢;obtain⟨x,g,u⟩:=H;exact⟨x,g,hk _ _ u⟩
   .exact bH hk H
  .exact bH hk H
 .unfold FV at *;split at H
  .split at H
   .exact⟨H.1,H.2.1,H.2.2.1,H.2.2.2.1,H.2.2.2.2.1,H.2.2.2.2.2.1,hk _ _ H.2.2.2.2.2.2⟩
   .exact bH hk H
  .exact bH hk H
 .exact hk _ _ H
 .exact bH hk H
theorem BG {o:Op}(hk:∀v h,K v h->K' v h)(H:opW P o ty e h K):opW P o ty e h K':=by
 have g:∀o:Op,opW P o ty e h K=pvW P o e h K (zH P o ty e h K)->opW P o ty e h K'=pvW P o e h K' (zH P o ty e h K')->opW P o ty e h K->opW P o ty e h K':=fun o u A H=>by rw[A];rw[u]at H;exact Rx hk (Qb hk) H
 cases o
 case move x=>exact hk _ _ H
 case assign x=>exact hk _ _ H
 case pick c a b=>
  simp only[opW]at *;split at H<;>first|exact hk _ _ H|exact H.elim
 case alloc t=>
  simp only[opW,fJ]at *;obtain⟨z,u,A⟩:=H;exact⟨z,u,hk _ _ A⟩
 case box t x=>exact hk _ _ H
 case load t x=>exact tK hk H
 case store t a x=>exact Iq hk H
 case fieldAddr s x f=>
  simp only[opW]at *;split at H
  .refine⟨H.1,?_⟩;have H:=H.2;rw[fJ]at H ⊢;obtain⟨z,u,A⟩:=H;exact⟨z,u,hk _ _ A⟩
  .exact H.elim
 case indexAddr t x i=>exact Pe hk H
 case nilCheck x=>
  simp only[opW]at *;split at H<;>first|exact hk _ _ H|exact bH hk H
 case binOp op t x y yt=>exact QB hk (bH hk) H
 case unOp op t x=>
  cases op
  case not=>
   simp only[opW]at *;split at H<;>first|exact hk _ _ H|exact H.elim
  all_goals exact g _ rfl rfl H
 case convert s d x=>
  simp only[opW]at *;split at H<;>first|exact⟨H.1,hk _ _ H.2⟩|exact bH hk H
 case extract x i=>
  simp only[opW]at *;split at H<;>first|exact IZ hk H|exact H.elim
 case makeFunc fn first caps=>exact hk _ _ H
 case call c=>
  obtain⟨B,C,I⟩:=c;cases B with
  |value f=>exact Kh hk (bH hk) H
  |_=>exact g _ rfl rfl H
 all_goals exact g _ rfl rfl H
theorem tC {v:Value}{A A':Bool->Prop}{U U':Prop}(hA:∀b,A b->A' b)(hU:U->U')(H:au v A U):au v A' U':=by
 unfold au at *;split at H
 .exact⟨fun h=>hA _ (H.1 h),fun h=>hA _ (H.2 h)⟩
 .exact hU H
 .exact H.elim
theorem jO {all:List Oper}{k k':aj}(hk:∀x e d h,k x e d h->k' x e d h):∀(ops:List Oper) (e:Env) (d:List Deferred) (h:Heap),dN P all ops k e d h->dN P all ops k' e d h
 |[],e,d,h,H=>hk _ _ _ _ H
 |o::rest,e,d,h,H=>by
  unfold dN ax at *;split at H
  .exact BG (fun v h=>jO hk rest _ _ _) H
  .split at H
   .exact jO hk rest _ _ _ H
   .refine tC (fun b u=> ?_) (jO hk rest _ _ _) H;split at u
    .rename_i g;rw[if_pos g];exact BG (fun v h=>jO hk rest _ _ _) u
    .rename_i g;rw[if_neg g];exact jO hk rest _ _ _ u
theorem uD {n n':Env->List Deferred->Heap->Prop}{k k':aj}(hn:∀e d h,n e d h->n' e d h)(hk:∀x e d h,k x e d h->k' x e d h):∀x e d h,iC n k x e d h->iC n' k' x e d h:=by
 intro x e d h H;cases x<;>first|exact hn _ _ _ H|exact hk _ _ _ _ H
theorem eX:∀(c:Code) {k k':aj} (_:∀x e d h,k x e d h->k' x e d h) (e:Env) (d:List Deferred) (h:Heap),exec l P c k e d h->exec l P c k' e d h
 | .skip,k,k',hk,e,d,h,H=>hk _ _ _ _ H
 | .seq a b,k,k',hk,e,d,h,H=>eX a (uD (fun e d h=>eX b hk e d h) hk) e d h H
 | .cond c x y,k,k',hk,e,d,h,H=>by
   unfold exec KS at *;split at H
   .refine tC (fun b g=> ?_) id H;cases b
    .exact eX y hk _ _ _ g
    .exact eX x hk _ _ _ g
   .exact eX x hk _ _ _ H
   .exact eX y hk _ _ _ H
   .exact H
 | .block i c,k,k',hk,e,d,h,H=>by
   refine eX c (k:=iK i k) (k':=iK i k') ?_ e d h H;intro x e d h g;cases x with
   |exit j=>
    simp only[iK]at *;split at g
    .rename_i u;rw[if_pos u];exact hk _ _ _ _ g
    .rename_i u;rw[if_neg u];exact hk _ _ _ _ g
   |_=>exact hk _ _ _ _ g
 | .region id ops false,k,k',hk,e,d,h,H=>jO hk _ _ _ _ H
 | .region id ops true,k,k',hk,e,d,h,H=>dD hk H
 | .exit i,k,k',hk,e,d,h,H=>hk _ _ _ _ H
 | .ret,k,k',hk,e,d,h,H=>hk _ _ _ _ H
 | .label i,k,k',hk,e,d,h,H=>hk _ _ _ _ H
 | .goto i,k,k',hk,e,d,h,H=>hk _ _ _ _ H
 | .loop c,k,k',hk,e,d,h,H=>dD hk H
 | .rangeFunc f ps a b,k,k',hk,e,d,h,H=>dD hk H
 | .scope c,k,k',hk,e,d,h,H=>dD hk H
 | .refuse s,k,k',hk,e,d,h,H=>dD hk H
def Pv (e0:Env)(d0:List Deferred)(ws:List Nat)(I:(Nat->Value)->Heap->Prop)(e:Env)(d:List Deferred)(h:Heap):Prop:=
 d=d0/\e=mkE e0 ws (fun i=>e.getD i undef)/\I (fun i=>e.getD i undef) h
theorem zBX {e0 e:Env}{d0:List Deferred}{ws:List Nat}{I:(Nat->Value)->Heap->Prop}{h:Heap}
 (h1:e=mkE e0 ws (fun i=>e.getD i undef)) (h2:I (fun i=>e.getD i undef) h):Pv e0 d0 ws I e d0 h:=⟨rfl,h1,h2⟩
theorem zBr {v:Value}{s:Tmp}{x y:Code}{n:Env->List Deferred->Heap->Prop}{k:aj}{d:List Deferred}(ws:List Nat)(I:(Nat->Value)->Heap->Prop)
 (H:cd l P v s x y (iC (Pv e d ws I) k) e d h) (Hn:∀g h',I g h'->n (mkE e ws g) d h'):cd l P v s x y (iC n k) e d h:=by
 unfold cd at *;have J:∀x B A h',iC (Pv e d ws I) k x B A h'->iC n k x B A h':=uD (fun B A h' u=>by
  obtain⟨L,N,O⟩:=u;subst L;rw[N];exact Hn _ _ O) (fun _ _ _ _ h=>h)
 refine tC (fun b C=> ?_) id H;cases b
 .exact eX y J _ _ _ C
 .exact eX x J _ _ _ C
end mono
section rows
section
variable {cs:List Value}{ct:TypeId}{h':Heap}{o:Obj}{xs:List Int}
def Row (h:Heap)(a:Option Addr)(cs:List Value):Prop:=
 cs=[]\/∃g off cur ct fr,a=some ⟨g,off,none⟩/\h[g]? =some (.cells cur ct fr)/\off+cs.length<=cur.size/\(cur.toList.drop off).take cs.length=cs
theorem Row.ext {h:Heap}{a:Option Addr}(H:Row h a cs)(x:Ext h h'):Row h' a cs:=by
 rcases H with H|⟨g,A,u,ct,B,C,I,J,L⟩
 .exact .inl H
 .exact .inr ⟨g,A,u,ct,B,C,x.get I,J,L⟩
theorem Row.push {h:Heap}{a:Option Addr}(H:Row h a cs)(o:Obj):Row (h.push o) a cs:=H.ext ((Ext.refl h).push o)
theorem Row.isSome {h:Heap}{a:Option Addr}(H:Row h a cs)(hl:0<cs.length):a.isSome=true:=by
 rcases H with H|⟨g,B,u,ct,C,A,_⟩
 .simp[H]at hl
 .simp[A]
theorem Row.cell {h:Heap}{a:Option Addr}(H:Row h a cs){j:Nat}(hj:j<cs.length):jL h (lg a j)=some cs[j]:=by
 rcases H with H|⟨g,A,u,ct,J,B,C,L,I⟩
 .simp[H]at hj
 .subst B;rw[gK,Hz,C];have:u[A+j]? =cs[j]? :=by
   rw[<-I,eD,if_pos hj,kL];simp
  simp only[TR,this,aW hj]
theorem Row.cells {h:Heap}{a:Option Addr}(H:Row h a cs){j n:Nat}(hj:j+n<=cs.length)(hn:0<n):gm h (lg a j) n=some ((cs.drop j).take n):=by
 rcases H with H|⟨g,I,u,ct,J,A,B,L,C⟩
 .simp[H]at hj;omega
 .subst A;rw[gK,EG,B];simp only[UY];rw[if_pos (by omega)];congr 1;rw[<-C,zB,rA,lX];congr 1;omega
theorem Row.sub {h:Heap}{a:Option Addr}(H:Row h a cs)(j n:Nat)(hj:j+n<=cs.length):Row h (lg a j) ((cs.drop j).take n):=by
 rcases H with H|⟨g,A,u,ct,B,C,I,N,J⟩
 .left;simp[H]
 .subst C;right;refine⟨g,A+j,u,ct,B,gK,I,?_,?_⟩
  .simp;omega
  .have L:((cs.drop j).take n).length=n:=by simp;omega
   rw[L,<-J,zB,rA,lX];congr 1;omega
theorem Row.block {h:Heap}{g:Nat}{c:List Value}{fr:Nat×Nat}(hb:h[g]? =some (.cells c.toArray ct fr)):Row h (some ⟨g,0,none⟩) c:=
 .inr ⟨g,0,c.toArray,ct,fr,rfl,hb,by simp,by simp⟩
theorem Row.take {h:Heap}{a:Option Addr}(H:Row h a cs)(n:Nat):Row h a (cs.take n):=by
 rcases H with H|⟨g,A,u,ct,B,C,I,L,J⟩
 .left;simp[H]
 .right;refine⟨g,A,u,ct,B,C,I,by simp;omega,?_⟩
  conv=>rhs;rw[<-J]
  rw[lX];congr 1;simp
def ints (xs:List Int):List Value:=xs.map (.int .i64)
theorem aR (xs:List Int):(ints xs).length=xs.length:=by simp[ints]
theorem UB {j:Nat}(hj:j<(ints xs).length):(ints xs)[j]= .int .i64 (xs.getD j 0):=by
 have g:j<xs.length:=by simpa[ints]using hj
 simp[ints,rT,aW g]
structure eu (h:Heap)(a:Option Addr)(len:Nat)(xs:List Int):Prop where
 len:len=xs.length
 row:Row h a (ints xs)
theorem eu.ext {h:Heap}{a:Option Addr}{n:Nat}(H:eu h a n xs)(x:Ext h h'):eu h' a n xs:=⟨H.len,H.row.ext x⟩
theorem eu.push {h:Heap}{a:Option Addr}{n:Nat}(H:eu h a n xs)(o:Obj):eu (h.push o) a n xs:=⟨H.len,H.row.push o⟩
theorem eu.cell {h:Heap}{a:Option Addr}{n:Nat}(H:eu h a n xs){j:Nat}(hj:j<xs.length):jL h (lg a j)=some (.int .i64 (xs.getD j 0)):=by
 rw[H.row.cell (by rw[aR];exact hj),UB]
theorem eu.isSome {h:Heap}{a:Option Addr}{n:Nat}(H:eu h a n xs)(hl:0<xs.length):a.isSome=true:=H.row.isSome (by rw[aR];exact hl)
theorem eu.nil (h:Heap):eu h none 0 []:=⟨rfl,.inl rfl⟩
theorem eu.block {h:Heap}{g:Nat}{fr:Nat×Nat}(hb:h[g]? =some (.cells (ints xs).toArray ct fr)):eu h (some ⟨g,0,none⟩) xs.length xs:=⟨rfl,Row.block hb⟩
theorem Ext.zBe {h:Heap}(x:Ext (h.push o) h'):Ext h h':=((Ext.refl h).push o).trans x
theorem Ext.lt {h:Heap}(x:Ext h h'){b:Nat}(hb:b<h.size):b<h'.size:=bv hb x.size
theorem zBS {n:Int}:InK .i64 n=(-9223372036854775808<=n/\n<=9223372036854775807):=by
 simp[InK,sK,sF,lN,qz]
structure Upd (h h':Heap)(b:Nat):Prop where
 size:h'.size=h.size
 old:∀b',b'≠b->h'[b']? =h[b']?
theorem Upd.get {h:Heap}{b b':Nat}(u:Upd h h' b)(hb:h[b']? =some o)(hne:b'≠b):h'[b']? =some o:=(u.old b' hne).trans hb
theorem Upd.ext {h0 h:Heap}{b:Nat}(u:Upd h h' b)(x:Ext h0 h)(hb:h0.size<=b):Ext h0 h':=⟨by rw[u.size];exact x.size,fun i g=>(u.old i (by omega)).trans (x.old i g)⟩
theorem Upd.nL {h:Heap}{b:Nat}{c:List Value}:Upd h (nL h b c ct) b:=⟨Jj,fun u g=>by unfold Eng.nL;rw[ib (Ne.symm g)]⟩
theorem eu.upd {h:Heap}{b:Nat}{a:Option Addr}{n:Nat}(H:eu h a n xs)(u:Upd h h' b)(hne:∀p,a=some p->p.block≠b):eu h' a n xs:=by
 refine⟨H.len,?_⟩;rcases H.row with J|⟨g,B,A,ct,I,C,L,N,O⟩
 .exact .inl J
 .exact .inr ⟨g,B,A,ct,I,C,u.get L (by have:=hne _ C;exact this),N,O⟩
theorem bA {h:Heap}{b:Nat}(hb:h[b]? =some o):b<h.size:=(eO.1 hb).1
theorem MN (c:List Value)(i:Nat)(v:Value)(hi:i<c.length):splice c i [v]=c.set i v:=by
 unfold splice;apply pV;intro j;simp only[pE,vW,kD,eD,rX,qp,List.nil_append,ed,List.length_nil];have:min i c.length=i:=by omega
 rw[this];by_cases g:j<i
 .simp[g,show¬i=j by omega]
 .rw[if_neg g];by_cases u:i=j
  .subst u;simp[hi]
  .rw[if_neg u];have:j-i=(j-(i+1))+1:=by omega
   rw[this,eP,kL];congr 1;omega
theorem ints_set (xs:List Int)(i:Nat)(v:Int):(ints xs).set i (.int .i64 v)=ints (xs.set i v):=by simp[ints,List.map_set]
theorem Oy {c:List Value}{b off:Nat}{vs:List Value}{h:Heap}{K:Value->Heap->Prop}(hb:h[b]? =some (.cells c.toArray ct))(hl:off+vs.length<=c.length)(H:∀h',h'[b]? =some (.cells (splice c off vs).toArray ct)->Upd h h' b->K undef h'):stK (some (c,ct)) b off vs h K:=by
 rw[U1];exact⟨hl,H _ (upd_same (bA hb)) Upd.nL⟩
theorem Cn (xs:List Int)(i:Nat)(hi:i<xs.length):(ints xs)[i]? =some (.int .i64 (xs.getD i 0)):=by
 simp[ints,rT,aW hi]
theorem zCC {P:Program}{f:FuncId}{args:Array Value}{h:Heap}{K:Value->Heap->Prop}(r:Value)(c:∀h',Ext h h'->ak P f args h' (fun v' h''=>v'=r/\Ext h' h''))(H:K r h):cQ P Ext f args h K:=⟨r,c,H⟩
theorem zBw {k:aj}{e:Env}{d:List Deferred}{h:Heap}(H:∀h',Ext h h'->k .normal e d h'):hvK Ext k e d h:=H
end
end rows
theorem Zr {e0 e:Env}{d0:List Deferred}{ws:List Nat}{I:(Nat->Value)->Heap->Prop}{μ:(Nat->Value)->Heap->Nat}{n:Nat}{h:Heap}
 (h1:e=mkE e0 ws (fun i=>e.getD i undef)) (h2:I (fun i=>e.getD i undef) h) (h3:μ (fun i=>e.getD i undef) h<n):FJ e0 d0 ws I μ n e d0 h:=⟨rfl,h1,h2,h3⟩
attribute [irreducible] exec dN bF opW dK aI iP fU kw wQ dF lZ pvW zH eU lm gd gdo gq gqo stq sts cd WP ak gP cQ qB JP iC iK lq FJ Pv hvK oO jl YP onV onC stK pkW alW faW ixW ncW ntW cvW exW Ci Rs VK Ey Ct BX nT ru Wv Fy FV VC DF ax KS au
set_option linter.defProp false
def coreS:=(aD (aD (aD (aD (aD (aD (aD @List.getElem?_toArray.{0} (aD @Rf @Ru)) (aD (aD @QY @JL) (aD @JX @Lx))) (aD (aD @zC (aD @Qv @Pp)) (aD (aD @UG @Mj) (aD @PZ @BQ)))) (aD (aD (aD @Qa (aD @NQ @Ig)) (aD (aD @Sm @Lc) (aD @LW @zBP))) (aD (aD @zAe (aD @zAr @zAz)) (aD (aD @Tc @Tu) (aD @UN @RD))))) (aD (aD (aD (aD @Pw (aD @Vp @Tq)) (aD (aD @ZY @V9) (aD @aV @Q9))) (aD (aD @QZ (aD @YZ @UT)) (aD (aD @Qd @WO) (aD @List.getD_cons_zero.{0} @List.getD_cons_succ.{0})))) (aD (aD (aD @List.set_cons_zero.{0} (aD @List.set_cons_succ.{0} @Gd)) (aD (aD @QT @Ka) (aD @Cq @NP))) (aD (aD @Jk (aD @Ji @Tp)) (aD (aD @UH @IM) (aD @JW @Jw)))))) (aD (aD (aD (aD (aD @uq (aD @rU @zN)) (aD (aD @List.nil_append.{0} @List.cons_append.{0}) (aD @qI @Ai))) (aD (aD @KJ (aD @Au @AQ)) (aD (aD @KR @EX) (aD @wZ @BR)))) (aD (aD (aD @FY (aD @Jf @EJ)) (aD (aD @sJ @Ue) (aD @mi @FH))) (aD (aD @Dk (aD @Dv @gK)) (aD (aD @uz @ZH) (aD @rH @WJ))))) (aD (aD (aD (aD @Vj (aD @VW @Wd)) (aD (aD @Vv @Wi) (aD @VM @VX))) (aD (aD @Vy (aD @Vr @Ut)) (aD (aD @VY @Vt) (aD @VQ @ZP)))) (aD (aD (aD @Vx (aD @Mv @SC)) (aD (aD @Ti @Tw) (aD @Us @SX))) (aD (aD @N8 (aD @Rn @NY)) (aD (aD @Sv @Ae) (aD @Fp @WA))))))) (aD (aD (aD (aD (aD (aD @RU (aD @yg @RQ)) (aD (aD @wC @Gg) (aD @BF @yz))) (aD (aD @Cu (aD @KH @Uu)) (aD (aD @VB @LY) (aD @U8 @QE)))) (aD (aD (aD @Ke (aD @Iu @EK)) (aD (aD @Ee @Re) (aD @NM @Ki))) (aD (aD @lH (aD @LJ @QS)) (aD (aD @QH @Dj) (aD @TH @Dw))))) (aD (aD (aD (aD @WB (aD @PW @Qz)) (aD (aD @ng @Jz) (aD @HZ @BU))) (aD (aD @Jc (aD @Dr @rD)) (aD (aD @UM @VE) (aD @nA @Uj)))) (aD (aD (aD @QM (aD @p9 @LK)) (aD (aD @Cs @RZ) (aD @SI @Hz))) (aD (aD @EG (aD @WQ @MK)) (aD (aD @LC @MS) (aD @uo @Rh)))))) (aD (aD (aD (aD (aD @Fa (aD @Dg @EB)) (aD (aD @Dx @List.all_cons.{0}) (aD @List.all_nil.{0} @Bool.and_true))) (aD (aD @Bool.and_self (aD @List.getElem?_cons_zero.{0} @List.getElem?_cons_succ.{0})) (aD (aD @List.drop_zero.{0} @List.drop_succ_cons.{0}) (aD @List.take_succ_cons.{0} @List.take_zero.{0})))) (aD (aD (aD @List.length_cons.{0} (aD @List.length_nil.{0} @List.size_toArray.{0})) (aD (aD @List.toList_toArray.{0} @Nat.zero_lt_one) (aD @true_implies @false_implies))) (aD (aD @not_true_eq_false (aD @not_false_eq_true @Nat.zero_add)) (aD (aD @Nat.add_zero @Nat.mul_one) (aD @Nat.le_refl @Int.toNat_natCast))))) (aD (aD (aD (aD @Int.toNat_zero (aD @Int.toNat_one @if_true.{1})) (aD (aD @if_false.{1} @and_self) (aD @true_and @and_true))) (aD (aD @Bool.not_not (aD @Bool.not_true @Bool.not_false)) (aD (aD @Bool.false_eq_true @Option.map_some.{0,0}) (aD @Option.map_none.{0,0} @Option.bind_some.{0,0})))) (aD (aD (aD @List.map_toArray.{0,0} (aD @List.map_cons.{0,0} @List.map_nil.{0,0})) (aD (aD @List.append_toArray.{0} @List.append_nil.{0}) (aD @List.replicate_succ.{0} @List.replicate_zero.{0}))) (aD (aD (aD @List.flatten_cons.{0} @List.flatten_nil.{0}) (aD @Nat.left_eq_add @Nat.add_eq_zero_iff)) (aD (aD @Nat.succ_ne_self @Nat.add_eq_left) (aD @WV @Su))))))))
def YS:=(aD (aD (aD (aD (aD @PX (aD @Gv @KT)) (aD (aD @QI @Pq) (aD @QF @Tf))) (aD (aD @zBJ (aD @zBE @zA1)) (aD (aD @zA9 @UQ) (aD @TE @U2)))) (aD (aD (aD @RG (aD @Pn @Uw)) (aD (aD @Ye @Qf) (aD @Ip @P6))) (aD (aD (aD @Qc @AO) (aD @CR @Cg)) (aD (aD @MJ @Sd) (aD @Tk @QL))))) (aD (aD (aD (aD @Fe (aD @Cv @Qq)) (aD (aD @MM @GK) (aD @K9 @NL))) (aD (aD @ML (aD @LX @Hq)) (aD (aD @zI @Mw) (aD @Pd @QO)))) (aD (aD (aD @Gm (aD @QA @BM)) (aD (aD @CB @Cf) (aD @Lm @UR))) (aD (aD (aD @Ej @Cj) (aD @GV @K6)) (aD (aD @L9 @K7) (aD @Ky @SS))))))
def drawS:=aD YS @QG
end Go.Eng
