/- Lemmas. No condition. -/
import Derived.Test.YtejmkibjpaoahaaGreatDoorRunU
open List renaming getElem?_cons_succ→eP,length_drop→xW,rec→Me
open Option renaming rec→zR
set_option linter.unusedVariables false
set_option linter.unusedSimpArgs false
set_option linter.defProp false
namespace Go.Run
open Go Go.Eng
section
variable {α:Type}
noncomputable def oev {α:Type}(l:List α):List α×List α:=Me (motive:=fun _=>List α×List α) ([],[]) (fun a _ ih=>(a::ih.2,ih.1)) l
noncomputable def bt {α:Type}(d:Nat):List α->En (Option α):=
 Nat.rec (motive:=fun _=>List α->En (Option α)) (fun l=>Me (motive:=fun _=>En (Option α)) (.leaf none) (fun a _ _=> .leaf (some a)) l) (fun _ ih l=> .node (ih (oev l).1) (ih (oev l).2)) d
noncomputable def oo {α:Type}(o:Option (Option α)):Option α:=zR (motive:=fun _=>Option α) none (fun x=>x) o
noncomputable def fiO (f:Func):Option FI:=zR (motive:=fun _=>Option FI) none (fun c=>some ⟨c,f.ntmps,f.results.toList⟩) f.body
theorem Ro (a:α)(l:List α):oev (a::l)=(a::(oev l).2,(oev l).1):=rfl
theorem ze {α:Type}:∀(l:List α) (i:Nat),(oev l).1[i]? =l[2*i]? /\(oev l).2[i]? =l[2*i+1]?
 |[],i=>by constructor<;>rfl
 |a::l,i=>by
  rw[Ro];refine⟨?_,?_⟩
  .cases i with
   |zero=>rfl
   |succ i=>
    rw[eP,(ze l i).2,show 2*(i+1)=(2*i+1)+1 by omega,eP]
  .rw[(ze l i).1,eP]
theorem VP (d:Nat)(l:List α):bt (d+1) l= .node (bt d (oev l).1) (bt d (oev l).2):=rfl
theorem Fg {α:Type}:∀(d:Nat) (l:List α) (t:Nat) (x:α),t<2^d->En.get (Pa.of d t) (bt d l)=some x->l[t]? =some x
 |0,l,t,x,ht,h=>by
  have:t=0:=by simp at ht;omega
  subst this;cases l with
  |nil=>cases h
  |cons a l=>exact h
 |d+1,l,t,x,ht,h=>by
  rw[Nat.pow_succ]at ht;rw[Pa.of_succ,VP]at h;split at h
  .rename_i c;rw[En.BS]at h;have:=Fg d _ _ _ (by omega) h;rw[(ze l (t/2)).1,show 2*(t/2)=t by omega]at this;exact this
  .rename_i c;rw[En.Aq]at h;have:=Fg d _ _ _ (by omega) h;rw[(ze l (t/2)).2,show 2*(t/2)+1=t by omega]at this;exact this
noncomputable def tyG (P:Program)(t:Nat)(o:Option TI):Option TI×List Sc:=
 zR (motive:=fun _=>Option TI×List Sc) (none,[]) (fun ti=>(Wh P t,Me (motive:=fun _=>List Sc) [] (fun _ _ _=>flT P t) ti.fl)) o
noncomputable def tyR (o:Option TI):Option TI×List Sc:=zR (motive:=fun _=>Option TI×List Sc) (none,[]) (fun ti=>(some ⟨ti.size,ti.bytes,ti.zero,ti.d,[]⟩,ti.fl)) o
noncomputable def tyC (P:Program):Nat->List (Option TI)->List (Option TI×List Sc)
 |_,[]=>[]
 |i,o::l=>tyG P i o::tyC P (i+1) l
def nI {α:Type}(Q:Nat->α->Prop):Nat->List α->Prop
 |_,[]=>True
 |i,x::l=>Q i x/\nI Q (i+1) l
theorem nI.app {α:Type}{Q:Nat->α->Prop}{l2:List α}:∀{l1:List α} {i k:Nat},nI Q i l1->i+l1.length=k->nI Q k l2->nI Q i (l1++l2)
 |[],i,k,_,hk,h2=>by cases hk;exact h2
 |x::l,i,k,h1,hk,h2=>⟨h1.1,nI.app h1.2 (by simp only[List.length_cons]at hk;omega) h2⟩
theorem nI.get {α:Type}{Q:Nat->α->Prop}:∀{l:List α} {i j:Nat} {x:α},nI Q i l->l[j]? =some x->Q (i+j) x
 |[],_,j,_,_,h=>by simp at h
 |a::l,i,0,x,hl,h=>by simp at h;subst h;exact hl.1
 |a::l,i,j+1,x,hl,h=>by
  rw[eP]at h;have:=nI.get hl.2 h;rwa[Nat.succ_add_eq_add_succ]at this
theorem nI.cut {Q:Nat->α->Prop}{l:List α}(a n:Nat)(h1:nI Q a ((l.drop a).take n))(h2:nI Q (a+n) (l.drop (a+n))):nI Q a (l.drop a):=by
 by_cases c:a+n<=l.length
 .have:=nI.app (k:=a+n) h1 (by rw[List.length_take,xW];omega) h2;rwa[<-List.drop_drop,List.take_append_drop]at this
 .rwa[List.take_of_length_le (by rw[xW];omega)]at h1
theorem nI.end {Q:Nat->α->Prop}{l:List α}{a:Nat}(h:l.length<=a):nI Q a (l.drop a):=by rw[List.drop_of_length_le h];trivial
theorem Z7 {P:Program}:∀{l:List (Option TI)} {i:Nat},tyC P i l=l.map tyR->nI (TyQ P) i l
 |[],_,_=>trivial
 |o::l,i,h=>by
  simp only[tyC,List.map_cons,List.cons.injEq]at h;refine⟨fun e d=> ?_,Z7 h.2⟩;have c:=h.1;subst d;simp only[tyG,tyR,Prod.mk.injEq]at c;refine⟨c.1,?_⟩;cases hf:e.fl with
  |nil=>exact .inl rfl
  |cons a b=>
   rw[hf]at c;exact .inr c.2
noncomputable def fnG (P:Program)(n:Nat)(f:Func):Bool:=zR (motive:=fun _=>Bool) true (fun _=>qA P n) f.body
noncomputable def fnC (P:Program):Nat->List Func->Bool
 |_,[]=>true
 |i,f::l=>Bool.rec (motive:=fun _=>Bool) false (fnC P (i+1) l) (fnG P i f)
theorem YE {P:Program}:∀{l:List Func} {i:Nat},fnC P i l=true->nI (fun i f=>fnG P i f=true) i l
 |[],_,_=>trivial
 |f::l,i,h=>by
  simp only[fnC]at h;cases hb:fnG P i f with
  |false=>rw[hb]at h;cases h
  |true=>rw[hb]at h;exact⟨hb,YE h⟩
@[reducible] noncomputable def mkP (P:Program) (d n:Nat) (L:List (Option TI)) (ext:Nat->X):Pr:=
 ⟨fun t=>ite (Nat.ble (Nat.succ t) n) (oo (En.get (Pa.of d t) (bt d L))) none,fun f=>ite (Nat.ble (Nat.succ f) n) (bnd (En.get (Pa.of d f) (bt d P.funcs.toList)) fiO) none,fun _=>0,ext,fun _=>none⟩
theorem zBv {P:Program}{d n:Nat}{L:List (Option TI)}{ext:Nat->X}(hn:n=2^d)(h1:nI (TyQ P) 0 L)(h2:nI (fun i f=>fnG P i f=true) 0 P.funcs.toList)(hm:P.follows .mixedOrders=true)(he:∀g,TJ P g (ext g)):Ok P (mkP P d n L ext):=by
 subst hn;refine⟨he,fun t v h=> ?_,fun f fi e=> ?_,hm⟩
 .simp only[aJ]at h;split at h
  .rename_i a;have a:=aH.1 a;cases hg:En.get (Pa.of d t) (bt d L)with
   |none=>rw[hg]at h;cases h
   |some o=>
    rw[hg]at h;have:=h1.get (Fg d L t o (by omega) hg);rw[Nat.zero_add]at this;exact this v h
  .cases h
 .simp only[aJ]at e;split at e
  .rename_i a;have a:=aH.1 a;cases hg:En.get (Pa.of d f) (bt d P.funcs.toList)with
   |none=>rw[hg]at e;cases e
   |some x=>
    rw[hg]at e;have u:=Fg d _ f x (by omega) hg;have j:=h2.get u;rw[Nat.zero_add]at j;have r:P.funcs[f]? =some x:=by rw[<-Array.getElem?_toList];exact u
    cases hb:x.body with
    |none=>
     have:fiO x=some fi:=e;unfold fiO at this;rw[hb]at this;cases this
    |some c=>
     have k:fiO x=some fi:=e;unfold fiO at k;rw[hb]at k;unfold fnG at j;rw[hb]at j;have q:qA P f=true:=j;unfold NA;rw[r];simp only[hb,q];exact k
  .cases e
theorem zBo {P:Program}{d n:Nat}{L:List (Option TI)}{ext:Nat->X}:fE P (mkP P d n L ext):=Rw (fun _=>rfl) fun _=>rfl
end
end Go.Run
