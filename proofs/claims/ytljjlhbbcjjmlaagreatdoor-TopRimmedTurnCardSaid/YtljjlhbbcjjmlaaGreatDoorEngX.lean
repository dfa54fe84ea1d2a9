/- The engine: a cut behind any piece of code; a plain region of quiet operations, evaluated by the kernel. No condition. -/
import Derived.Test.YtljjlhbbcjjmlaaGreatDoorEng
set_option linter.unusedVariables false
set_option linter.unusedSimpArgs false
namespace Go.Eng
open Go
theorem zBq {l:Option Nat}{P:Program}{c:Code}{n:Env->List Deferred->Heap->Prop}{k:aj}{e:Env}{d:List Deferred}{h:Heap}(ws:List Nat)(I:(Nat->Value)->Heap->Prop)
 (H:WP l P c (iC (Pv e d ws I) k) e d h) (Hn:∀g h',I g h'->n (mkE e ws g) d h'):WP l P c (iC n k) e d h:=
 dD (uD (fun e' d' h' hmid=>by
  unfold Pv at hmid;obtain⟨h1,h2,h3⟩:=hmid;subst h1;rw[h2];exact Hn _ _ h3) (fun _ _ _ _ h=>h)) H
def eqO:Value->Value->Option Bool
 | .int k a,.int k' b=>if k=k' then some (decide (a=b))else none
 |_,_=>none
def IQ (e:Env):Op->Option Value
 | .move x=>some (ev e x)
 | .assign x=>some (ev e x)
 | .pick c a b=>match ev e c with
   | .bool true=>some (ev e a)
   | .bool false=>some (ev e b)
   |_=>none
 | .binOp .eql _ x y _=>(eqO (ev e x) (ev e y)).map .bool
 | .binOp .neq _ x y _=>(eqO (ev e x) (ev e y)).map fun b=> .bool (!b)
 |_=>none
def sP (all:List Oper):List Oper->Env->Option Env
 |[],e=>some e
 |o::rest,e=>match o.guard with
  |none=>(IQ e o.op).bind fun v=>sP all rest (aU e o.dst v)
  |some (j,want)=>match fQ all j with
   |none=>none
   |some t=>match e.getD t undef with
    | .bool b=>if b=want then(IQ e o.op).bind fun v=>sP all rest (aU e o.dst v)else sP all rest (aU e o.dst undef)
    |_=>none
theorem Hg {v w:Value}{b:Bool}(h:eqO v w=some b):∃k x y,v= .int k x/\w= .int k y/\b=decide (x=y):=by
 unfold eqO at h;split at h
 .split at h
  .rename_i hk;subst hk;exact⟨_,_,_,rfl,rfl,(Option.some.inj h).symm⟩
  .cases h
 .cases h
section pureR
variable {P:Program}{k:aj}{d:List Deferred}{h:Heap}
theorem Ia {e:Env}{o:Op}{v:Value}{ty:TypeId}{K:Value->Heap->Prop}(H:IQ e o=some v)(hK:K v h):opW P o ty e h K:=by
 unfold IQ at H;unfold opW;split at H
 .cases H;exact hK
 .cases H;exact hK
 .split at H
  .rename_i hc;cases H;simp only[hc];exact hK
  .rename_i hc;cases H;simp only[hc];exact hK
  .cases H
 .rename_i ty2 x y yt;obtain⟨b,hb,rfl⟩:=Option.map_eq_some_iff.1 H;obtain⟨kd,a,c,h1,h2,rfl⟩:=Hg hb;simp only[h1,h2];unfold dF fI;exact⟨rfl,hK⟩
 .rename_i ty2 x y yt;obtain⟨b,hb,rfl⟩:=Option.map_eq_some_iff.1 H;obtain⟨kd,a,c,h1,h2,rfl⟩:=Hg hb;simp only[h1,h2];unfold dF fI;exact⟨rfl,hK⟩
 .cases H
theorem uF {all:List Oper}{e':Env}:∀(ops:List Oper) (e:Env),sP all ops e=some e'->k .normal e' d h->dN P all ops k e d h
 |[],e,H,hk=>by
  unfold dN;cases H;exact hk
 |o::rest,e,H,hk=>by
  unfold dN ax;unfold sP at H;have plain:((IQ e o.op).bind fun v=>sP all rest (aU e o.dst v))=some e'->opW P o.op o.type e h (fun v h'=>dN P all rest k (aU e o.dst v) d h'):=fun H=>by
   obtain⟨v,h1,h2⟩:=Option.bind_eq_some_iff.1 H;exact Ia h1 (uF rest _ h2 hk)
  split at H
  .rename_i hg;simp only[hg];exact plain H
  .rename_i j want hg;simp only[hg];split at H
   .cases H
   .rename_i t hs;simp only[hs];split at H
    .rename_i b hb;have ht:t<e.length:=by
      rcases Nat.lt_or_ge t e.length with h|h
      .exact h
      .simp[List.getD,List.getElem?_eq_none h,undef]at hb
     have hset:=jd hb ht;rw[hb];unfold au;have key:∀c,b=c->(if c=want then opW P o.op o.type (e.set t (.bool c)) h (fun v h'=>dN P all rest k (aU (e.set t (.bool c)) o.dst v) d h')else dN P all rest k (aU (e.set t (.bool c)) o.dst undef) d h):=by
      rintro c rfl;rw[hset];by_cases hw:b=want
      .rw[if_pos hw]at H ⊢;exact plain H
      .rw[if_neg hw]at H ⊢;exact uF rest _ H hk
     exact⟨fun hb=>key true hb,fun hb=>key false hb⟩
    .cases H
theorem Ww {all:List Oper}{e:Env}(ws:List Nat)(hs:(sP all all e).isSome=true)(hw:mkE e ws (fun i=>((sP all all e).getD []).getD i undef)=(sP all all e).getD [])
 (H:∀g:Nat->Value,(g=fun i=>((sP all all e).getD []).getD i undef)->k .normal (mkE e ws g) d h):dN P all all k e d h:=by
 obtain⟨e',he⟩:=Option.isSome_iff_exists.1 hs;refine uF all e he ?_;have:=H _ rfl;rw[hw,he]at this;exact this
end pureR
end Go.Eng
