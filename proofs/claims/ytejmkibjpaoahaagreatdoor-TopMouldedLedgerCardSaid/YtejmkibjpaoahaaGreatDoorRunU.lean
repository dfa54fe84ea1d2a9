/- Lemmas. No condition. -/
import Derived.Test.YtejmkibjpaoahaaGreatDoorRunT
import Derived.LoopNIn
import Derived.RangeFuncIn
import Derived.ProofKit
open Nat renaming eq_of_beq_eq_true→aC,beq→aX,le_refl→bi,ble→bn,lt_of_lt_of_le→bv,succ_add_eq_add_succ→bM,succ→cK,zero_add→ek,le_trans→fw,add_zero→ko,blt→kV,beq_refl→lG,lt_or_ge→sD,min_eq_left→tT,sub→yw,zero_le→Bd,strongRecOn→GA,div→KN,lt_trichotomy→NR,le_add_right→OD,mul_assoc→VS
open Bool renaming and_eq_true→aF,false_eq_true→eB,or_eq_true→gL,not_eq_true'→lh,eq_iff_iff→mD,or_false→yQ
open Go.Result renaming andThen_ok→aN,andThen→cZ
open List renaming getElem?_eq_some_iff→aS,getElem?_eq_getElem→aW,replicate→aZ,all_eq_true→bJ,mem_cons→bP,mem_of_getElem?→bQ,getElem?_of_mem→dL,mem_filter→dM,length_cons→ed,getElem?_take→eD,getElem?_cons_succ→eP,length_eq_zero_iff→eQ,mem_map→fo,take_succ_cons→kY,map_cons→lT,mem_singleton→mJ,filter_cons→mM,flatten_cons→qb,cons_append→qp,take_append_drop→qM,getElem?_map→rV,mem_append→sW,nil_append→tq,any_eq_true→wF,any_append→xJ,getElem?_zip_eq_some→zD,pairwise_iff_getElem→zM,getElem?_inj→zP,length_pos_of_mem→CF,append_nil→Fx,foldl_cons→FN,getLast?_concat→IB,pairwise_map→NE,nodup_cons→PE,nodup_nil→SF,any_cons→TY
open Go.Sem renaming run_bind→aY,run_pure→bE,run→Lj
open Array renaming toList_inj→bz,length_toList→dC,getElem?_setIfInBounds_ne→ib,getElem?_push→iq,contains_iff_mem→kM,getD_eq_getD_getElem?→lw,toArray_toList→lC,toList_filter→ql,mem_toList_iff→vC,replicate→xG,mem_push→zA,mem_filter→Oo
open Int renaming ofNat_eq_natCast→bL
open Go.Region renaming wanted→fe,ready→kC
open Go.ChangeMaps renaming setBlock→kX
open Go.Value renaming int→nX,string→Ic
open Go.Code renaming roundsIn→ol
open Go.Instr renaming enterLoop→Dn,endRound→II,beginRound→Oz,endLoop→SH,getLoop→SL
set_option linter.unusedVariables false
set_option linter.unusedSimpArgs false
namespace Go.Run
open Go Go.Eng
section draw
variable {P:Program}{p:Pr}{ι:Io}{s s':S}{h:Heap}{m:Fm}{e e':E}{er:Env}{ty:TypeId}{t:T}{K:Value->Heap->Prop}{cf:fG}
theorem nK {α:Type}{f:Nat->α->Bool}:∀{l:List α} {i:Nat},KV f l i=true->∀j x,l[j]? =some x->f (i+j) x=true
 |[],i,_,j,x,hx=>by simp at hx
 |y::l,i,h,j,x,hx=>by
  simp only[KV]at h;split at h
  .rename_i u;cases j with
   |zero=>simp at hx;subst hx;exact u
   |succ j=>
    have:=nK h j x (by simpa using hx);rwa[bM]at this
  .cases h
theorem DY {α:Type}{f:Nat->α->Bool}:∀{l:List α} {i:Nat},Ta f l i=true->∃j x,l[j]? =some x/\f (i+j) x=true
 |[],i,h=>by simp[Ta]at h
 |y::l,i,h=>by
  simp only[Ta]at h;split at h
  .rename_i A;exact⟨0,y,rfl,A⟩
  .obtain⟨j,x,u,v⟩:=DY h;exact⟨j+1,x,by simpa using u,by rwa[bM]at v⟩
theorem pU {i:Nat}:∀{l:List Nat},qN i l=true<->i∈l
 |[]=>by simp[qN]
 |j::l=>by
  simp only[qN,bP];by_cases h:i=j
  .subst h;simp
  .have:aX i j=false:=by cases hb:aX i j with|false=>rfl|true=>exact absurd (aC hb) h
   rw[this];simp only[pU,h,false_or]
theorem wH {k:Nat}:is2 k=true<->k=2:=⟨fun h=>aC h,fun h=>by subst h;rfl⟩
structure Db (all:List Oper)(l:List (Oper×PO)):Prop where
 dep:∀{i:Nat} {x:Oper×PO},l[i]? =some x->∀d∈deps x.1,d<i
 kind:∀{i:Nat} {x:Oper×PO},l[i]? =some x->x.2.k=kindOf x.1.op
 zBl:∀{i:Nat} {x:Oper×PO},l[i]? =some x->x.2.lo<=i
 lo:∀{i:Nat} {x:Oper×PO},l[i]? =some x->x.2.lo=0\/∃(c d:Nat) (y:Oper×PO),x.2.lo=c+1/\d∈deps x.1/\l[d]? =some y/\((y.2.k=2/\c=d)\/y.2.lo=c+1)
 hi:∀{i:Nat} {x:Oper×PO},l[i]? =some x->l.length<=x.2.hi\/∃(j:Nat) (y:Oper×PO),l[j]? =some y/\i∈deps y.1/\((y.2.k=2/\x.2.hi=j)\/y.2.hi=x.2.hi)
 chain:∀{i:Nat} {x:Oper×PO},l[i]? =some x->x.2.k=2->∀{j:Nat} {y:Oper×PO},l[j]? =some y->j<i->y.2.k=2->j<x.2.lo
 slots:∀{i:Nat} {x:Oper×PO},l[i]? =some x->∀{j:Nat} {y:Oper×PO},l[j]? =some y->i≠j->∀q,y.1.dst=some q->x.1.dst≠some q/\(q∈looks all x.1->j∈deps x.1\/i∈deps y.1)
theorem G9 {all:List Oper}{l:List (Oper×PO)}(h:Rv all l=true):Db all l:=by
 have B:=fun i x v=>nK h i x v
 simp only[ek,aF]at B;refine⟨?_,?_,?_,?_,?_,?_,?_⟩
 .intro i x v d J;have:=(B i x v).1.1.1.1.1.1;exact bX.1 (bJ.1 this d J)
 .intro i x v;exact aC (B i x v).1.1.1.1.1.2
 .intro i x v;exact aH.1 (B i x v).1.1.1.1.2
 .intro i x v;have:=(B i x v).1.1.1.2;unfold zAb at this;split at this
  .rename_i Z;exact .inl Z
  .rename_i c Q;obtain⟨d,u,A⟩:=wF.1 this;split at A
   .rename_i y C;refine .inr ⟨c,d,y,Q,u,C,?_⟩;simp only[gL,aF]at A;rcases A with A|A
    .exact .inl ⟨wH.1 A.1,aC A.2⟩
    .exact .inr (aC A)
   .cases A
 .intro i x v;have:=(B i x v).1.1.2;unfold zAc at this;simp only[gL]at this;rcases this with u|u
  .exact .inl (aH.1 u)
  .obtain⟨j,y,A,H⟩:=DY u;simp only[ek,aF,gL]at H;refine .inr ⟨j,y,A,pU.1 H.1,?_⟩;rcases H.2 with G|G
   .exact .inl ⟨wH.1 G.1,aC G.2⟩
   .exact .inr (aC G)
 .intro i x v U j y C R O;have:=(B i x v).1.2;unfold Ov at this;rw[wH.2 U]at this;have:=nK this j y C;simp only[ek]at this;rw[bX.2 R,wH.2 O]at this;exact bX.1 this
 .intro i x v j y C N q W;have:=(B i x v).2;unfold PK at this;have:=nK this j y C;simp only[ek,W]at this;have I:aX i j=false:=by cases I:aX i j with|false=>rfl|true=>exact absurd (aC I) N
  rw[I]at this;simp only[Bool.false_or,aF,lh,gL]at this;refine⟨fun J=> ?_,fun V=> ?_⟩
  .have u:=this.1;unfold IC at u;rw[J]at u;have u:aX q q=false:=u;have:aX q q=true:=lG q;rw[this]at u;cases u
  .rcases this.2 with(u|u)|u
   .rw[pU.2 V]at u;cases u
   .exact .inl (pU.1 u)
   .exact .inr (pU.1 u)
section plan
variable {all:List Oper}{l:List (Oper×PO)}(F:Db all l){f:Nat->Bool}
noncomputable def Closed (l:List (Oper×PO))(f:Nat->Bool):Prop:=∀i x,l[i]? =some x->f i=true->∀d∈deps x.1,f d=true
include F
theorem Oj (hc:Closed l f):∀(i:Nat) (x:Oper×PO),l[i]? =some x->(∀d∈deps x.1,f d=true)->x.2.lo=0\/∃c y,x.2.lo=c+1/\l[c]? =some y/\y.2.k=2/\f c=true:=by
 intro i;induction i using GA with
 |_ i ih=>
  intro x H G;rcases F.lo H with h|⟨c,d,y,C,u,v,j⟩
  .exact .inl h
  .rcases j with⟨j,rfl⟩|j
   .exact .inr ⟨c,y,C,v,j,G _ u⟩
   .have A:=G _ u;rcases ih d (F.dep H d u) y v (hc d y v A)with I|⟨B,N,I,J⟩
    .omega
    .obtain rfl:B=c:=by omega
     exact .inr ⟨B,N,C,J⟩
theorem before (hc:Closed l f):∀(c:Nat) (x:Oper×PO),l[c]? =some x->x.2.k=2->(∀d∈deps x.1,f d=true)->∀c' y,l[c']? =some y->c'<c->y.2.k=2->f c'=true:=by
 intro c;induction c using GA with
 |_ c ih=>
  intro x A N J c' y G v j;have O:=F.chain A N G v j;have Q:=F.zBl A;rcases Oj F hc c x A J with H|⟨c0,z,H,B,I,C⟩
  .omega
  .by_cases u:c'=c0
   .subst u;exact C
   .exact ih c0 (by omega) z B I (hc c0 z B C) c' y G (by omega) j
theorem Nu (hc:Closed l f):∀(k i:Nat) (x:Oper×PO),l.length-i<=k->l[i]? =some x->f i=false->l.length<=x.2.hi\/∃y,l[x.2.hi]? =some y/\y.2.k=2/\f x.2.hi=false:=by
 intro k;induction k with
 |zero=>
  intro i x J B _;have:=(aS.1 B).1;omega
 |succ k ih=>
  intro i x J B H;rcases F.hi B with h|⟨j,y,A,C,u⟩
  .exact .inl h
  .have I:=F.dep A i C;have v:f j=false:=by
    cases hb:f j with
    |false=>rfl
    |true=>have:=hc j y A hb i C;rw[H]at this;cases this
   rcases u with⟨u,G⟩|u
   .exact .inr ⟨y,by rw[G];exact A,u,by rw[G];exact v⟩
   .rw[<-u];exact ih j y (by omega) A v
omit F in
theorem yx (l:List (Oper×PO)):∀(k i:Nat),l.length-i<=k->i<=l.length->∃q,i<=q/\q<=l.length/\(∀y,l[q]? =some y->y.2.k=2)/\∀j y,i<=j->j<q->l[j]? =some y->y.2.k≠2:=by
 intro k;induction k with
 |zero=>
  intro i J B;exact⟨l.length,B,bi _,by simp,fun j y G v=>by omega⟩
 |succ k ih=>
  intro i J B;by_cases C:i=l.length
  .subst C;exact⟨l.length,bi _,bi _,by simp,fun j y G v=>by omega⟩
  .have A:i<l.length:=by omega
   by_cases v:l[i].2.k=2
   .refine⟨i,bi _,B,fun y u=> ?_,fun j y G v=>by omega⟩;rw[aW A]at u;cases u;exact v
   .obtain⟨q,q1,q2,q3,q4⟩:=ih (i+1) (by omega) (by omega);refine⟨q,by omega,q2,q3,fun j y N H u=> ?_⟩;by_cases I:j=i
    .subst I;rw[aW A]at u;cases u;exact v
    .exact q4 j y (by omega) H u
end plan
section
variable {r:Rec}{s1:S}
noncomputable def GQ (rs:List Rec)(ef:E)(i:Nat):E:=match rs[i]? with|some r=>r.e|none=>ef
noncomputable def dx (rs:List Rec)(sf:S)(i:Nat):S:=match rs[i]? with|some r=>r.s|none=>sf
noncomputable def eLg (m:Fm)(L:Nat->Bool):List Rec->Nat->E->E
 |[],_,e=>e
 |r::rs,i,e=>eLg m L rs (i+1) (if L i then uM m e r.o.dst r.t else e)
theorem qw {β:Type}(s:S)(k:S->β):KZ s k=k s:=by cases s;rfl
noncomputable def fT (rs:List Rec):List Rec:=rs.filter fun r=>r.ob.isSome
theorem xO {rs:List Rec}(h:r.ob.isSome=true):fT (r::rs)=r::fT rs:=by unfold fT;simp[h]
theorem yD {rs:List Rec}(h:r.ob=none):fT (r::rs)=fT rs:=by unfold fT;simp[h]
structure zAQ (p:Pr)(m:Fm)(cf:fG)(all:List Oper)(x:Oper×PO)(i:Nat)(al:List Rec)(r:Rec)(s':S):Prop where
 o:r.o=x.1
 po:r.po=x.2
 fit:∀q,r.o.dst=some q->q<m.n
 want:wants m all r.o.guard r.e=some r.w
 skip:r.w=false->r.t=fB/\s'=r.s
 run:r.w=true->r.po.k≠3->vN p m cf r.o r.po.k r.e r.s (act al i r.s)= .ok (r.t,s')
 alc:r.w=true->r.po.k=3->∃ob,r.ob=some ob/\nH p m r.o r.e r.b=some (r.t,ob)/\s'=r.s
 none:(r.w=false\/r.po.k≠3)->r.ob=none
structure Tr (p:Pr)(m:Fm)(cf:fG)(all:List Oper)(i0:Nat)(al:List Rec)(nb:Nat)(l:List (Oper×PO))(e:E)(s:S)(rs:List Rec)(ef:E)(sf:S):Prop where
 len:rs.length=l.length
 zero:dx rs sf 0=s
 get:∀i x,l[i]? =some x->∃r,rs[i]? =some r/\zAQ p m cf all x (i0+i) ((fT (rs.take i)).reverse++al) r (dx rs sf (i+1))
 num:∀i r,rs[i]? =some r->r.ob.isSome=true->r.b=nb+(fT (rs.take i)).length
 cnt:(fT rs).length<=uS l
 env:∀i b,i<=rs.length->GQ rs ef i=eLg m (fun j=>decide (j<b+i)) rs b e
theorem uV (L:Nat->Bool):∀(rs:List Rec) (b:Nat) (e:E),(∀j,b<=j->L j=false)->eLg m L rs b e=e
 |[],b,e,_=>rfl
 |r::rs,b,e,h=>by
  simp only[eLg,h b (bi _),eB,if_false];exact uV L rs (b+1) e fun j u=>h j (by omega)
theorem Tr.cons {all:List Oper}{i0 nb nb':Nat}{al al':List Rec}{l:List (Oper×PO)}{x:Oper×PO}{rs:List Rec}{ef:E}{sf:S}(he:r.e=e)(hs:r.s=s)(H:Tr p m cf all (i0+1) al' nb' l (uM m e r.o.dst r.t) s1 rs ef sf)(hr:zAQ p m cf all x i0 al r s1)(hal:(r.ob.isSome=true/\al'=r::al/\nb'=nb+1/\r.b=nb/\x.2.k=3)\/(r.ob=none/\al'=al/\nb'=nb)):Tr p m cf all i0 al nb (x::l) e s (r::rs) ef sf:=by
 have G:∀i,(fT ((r::rs).take (i+1))).reverse++al=(fT (rs.take i)).reverse++al':=by
  intro i;rw[kY];rcases hal with⟨u,A,_⟩|⟨u,A,_⟩
  .rw[A,xO u,List.reverse_cons,List.append_assoc];rfl
  .rw[A,yD u]
 refine⟨by simp[H.len],by simp[dx,hs],?_,?_,?_,?_⟩
 .intro i y J;cases i with
  |zero=>
   simp at J;subst J;refine⟨r,rfl,?_⟩;have:dx (r::rs) sf 1=s1:=by rw[<-H.zero];simp[dx]
   rw[this];simpa[fT]using hr
  |succ i=>
   obtain⟨N,u,A⟩:=H.get i y (by simpa using J);refine⟨N,by simpa using u,?_⟩;have:dx (r::rs) sf (i+1+1)=dx rs sf (i+1):=by simp[dx]
   rw[this,G,show i0+(i+1)=i0+1+i by omega];exact A
 .intro i N C B;cases i with
  |zero=>
   simp at C;subst C;rcases hal with⟨_,_,_,Q,_⟩|⟨u,_⟩
   .simp[fT,Q]
   .rw[u]at B;cases B
  |succ i=>
   have u:=H.num i N (by simpa using C) B;rw[u,kY];rcases hal with⟨v,_,I,_⟩|⟨v,_,I⟩
   .rw[xO v,I,ed];omega
   .rw[yD v,I]
 .have u:=H.cnt;unfold uS;rcases hal with⟨v,_,_,_,O⟩|⟨v,_⟩
  .rw[xO v,O];have:aX 3 3=true:=rfl;rw[this];simp only[ed];omega
  .rw[yD v];split
   .omega
   .exact u
 .intro i b C;cases i with
  |zero=>
   rw[uV]
   .simp[GQ,he]
   .intro j R;simp;omega
  |succ i=>
   have u:=H.env i (b+1) (by simpa using C);have A:GQ (r::rs) ef (i+1)=GQ rs ef i:=by simp[GQ]
   rw[A,u];simp only[eLg];rw[if_pos (by simp)];congr 1;funext j;congr 1;simp;omega
theorem rF {all:List Oper}:∀{l:List (Oper×PO)} {i0:Nat} {al:List Rec} {nb:Nat} {e:E} {s:S} {k:E->S->List Rec->Res (E×S)} {r:E×S},Ku p m cf all l i0 al nb e s k= .ok r->∃rs ef sf,Tr p m cf all i0 al nb l e s rs ef sf/\k ef sf rs= .ok r
 |[],i0,al,nb,e,s,k,r,h=>by
  have h:k e s []= .ok r:=h;exact⟨[],e,s,⟨rfl,by simp[dx],by simp,by simp,by simp[fT],fun i b J=>by simp[GQ,eLg]⟩,h⟩
 |x::l,i0,al,nb,e,s,k,r,h=>by
  have h:MH p m cf all i0 x.1 x.2 (Ku p m cf all l (i0+1)) al nb e s k= .ok r:=h;unfold MH at h;split at h
  .rename_i B;split at h
   .rename_i j;have j:=aC j;split at h
    .rename_i t H C;obtain⟨A,h⟩:=kZ h;obtain⟨rs,ef,sf,u,v⟩:=rF h;exact⟨_,ef,sf,Tr.cons (r:=⟨x.1,x.2,true,t,e,s,nb,some H⟩) rfl rfl u ⟨rfl,rfl,A,B,fun h=>(by cases h),fun _ h=>absurd j h,fun _ _=>⟨H,rfl,C,rfl⟩,fun h=>(by rcases h with h|h;cases h;exact absurd j h)⟩ (.inl ⟨rfl,rfl,rfl,rfl,j⟩),v⟩
    .cases h
   .rename_i j;have j:x.2.k≠3:=fun I=>by rw[I]at j;cases j
    split at h
    .rename_i t s1 G;rw[qw]at G;obtain⟨A,h⟩:=kZ h;obtain⟨rs,ef,sf,u,v⟩:=rF h;exact⟨_,ef,sf,Tr.cons (r:=⟨x.1,x.2,true,t,e,s,0,Option.none⟩) rfl rfl u ⟨rfl,rfl,A,B,fun h=>(by cases h),fun _ _=>G,fun _ h=>absurd h j,fun _=>rfl⟩ (.inr ⟨rfl,rfl,rfl⟩),v⟩
    .cases h
  .rename_i B;obtain⟨A,h⟩:=kZ h;obtain⟨rs,ef,sf,u,v⟩:=rF h;exact⟨_,ef,sf,Tr.cons (r:=⟨x.1,x.2,false,fB,e,s,0,Option.none⟩) rfl rfl u ⟨rfl,rfl,A,B,fun _=>⟨rfl,rfl⟩,fun h=>(by cases h),fun h=>(by cases h),fun _=>rfl⟩ (.inr ⟨rfl,rfl,rfl⟩),v⟩
  .cases h
theorem Bl:∀(al:List Rec) (q:Nat) (s:S),(act al q s).nx=s.nx/\(act al q s).low=s.low
 |[],q,s=>⟨rfl,rfl⟩
 |r::al,q,s=>by
  unfold act;split
  .rename_i j _;split
   .have:=Bl al q (bG s r.b (some j) s.nx s.low);rw[fq,iR]at this;exact this
   .exact Bl al q s
  .exact Bl al q s
theorem Mh:∀(al:List Rec) (q:Nat) (s:S) (c:Nat),(∀r∈al,r.ob.isSome=true->r.po.hi=q->r.b≠c)->(act al q s).at c=s.at c
 |[],q,s,c,_=>rfl
 |r::al,q,s,c,h=>by
  have u:=fun s=>Mh al q s c fun r B=>h r (by simp[B])
  unfold act;split
  .rename_i ob j;split
   .rename_i A;rw[u,bO,if_neg];intro v;exact h r (by simp) (by rw[j];rfl) (aC A) v.2.symm
   .exact u s
  .exact u s
noncomputable def Made (P:Program)(ι:Io)(h:Heap)(r:Rec):Prop:=∃ob x obr,r.ob=some ob/\ι r.b=some x/\h[x.r]? =some obr/\OR P ι x ob obr/\∀c y,ι c=some y->y.r=x.r->c=r.b
theorem vT:∀(al:List Rec) (q:Nat) {s:S},Sim P ι s h->(∀r∈al,r.ob.isSome=true->r.po.hi=q->Made P ι h r)->Sim P ι (act al q s) h
 |[],q,s,H,_=>H
 |r::al,q,s,H,hm=>by
  unfold act;split
  .rename_i ob j;split
   .rename_i I;obtain⟨J,x,N,v,A,B,C,G⟩:=hm r (by simp) (by rw[j];rfl) (aC I);rw[j]at v;cases v;exact vT al q (Sim.lay H A B C G) fun r u=>hm r (by simp[u])
   .exact vT al q H fun r u=>hm r (by simp[u])
  .exact vT al q H fun r u=>hm r (by simp[u])
theorem PP {ι1:Io}{h1:Heap}(H:Sim P ι s h)(q1:Ste ι s h ι1 s1 h1){al:List Rec}{q:Nat}(hb:∀r∈al,r.ob.isSome=true->s.nx<=r.b):Ste ι s h ι1 (act al q s1) h1:=by
 obtain⟨I,A⟩:=Bl al q s1;have u:∀c,c<s.nx->(act al q s1).at c=s1.at c:=fun c j=>Mh al q s1 c fun r B J _=>by have:=hb r B J;omega
 refine⟨q1.sub,by rw[I];exact q1.nx,by rw[A];exact q1.low,q1.size,fun c j G=>by rw[u c j];exact q1.dead c j G,fun c x j=>by rw[A];exact q1.grow c x j,fun c x j v=> ?_,fun r B C=>q1.old r B (by rw[A]at C;exact C)⟩;refine q1.am c x j ?_;unfold bZ at v ⊢;rw[u c (H.fresh c x j).1]at v;exact v
theorem Di {ι1 ι2:Io}{s2:S}{h1 h2:Heap}(H:Sim P ι1 s1 h1)(q:Ste ι1 s1 h1 ι2 s2 h2)(hd:s1.at r.b=none)(hb:r.b<s1.nx):s2.at r.b=none/\(ι1 r.b=none->ι2 r.b=none)/\(Made P ι1 h1 r->Made P ι2 h2 r):=by
 refine⟨q.dead _ hb hd,fun U=> ?_,?_⟩
 .cases hx:ι2 r.b with
  |none=>rfl
  |some x=>
   rcases q.grow _ x hx with j|⟨j,_⟩
   .rw[U]at j;cases j
   .omega
 .rintro⟨V,x,C,J,v,N,O,A⟩;refine⟨V,x,C,J,q.sub _ _ v,?_,O.mono q.sub,fun c y B u=> ?_⟩
  .rw[q.old x.r (H.fresh _ _ v).2 fun c y B u=> .inl (by rw[A c y B u];exact hd)];exact N
  .rcases q.grow c y B with j|⟨_,j⟩
   .exact A c y j u
   .rcases j with j|⟨I,W,Q,R,_,G⟩
    .have:=(H.fresh _ _ v).2;omega
    .have:=A I W Q (R.trans u);rw[this]at G;exact absurd hd G
theorem vJ {x:Nat}(hf:m.n<=2^m.dp)(hx:x<m.n){d:Option Tmp}(hd:∀q,d=some q->q<m.n)(e:E)(v:T):En.get (Pa.of m.dp x) (uM m e d v)=if d=some x then v else En.get (Pa.of m.dp x) e:=by
 cases d with
 |none=>simp[uM]
 |some q=>
  have j:=hd q rfl;simp only[uM];rw[En.bT (bv hx hf) (bv j hf)];by_cases h:x=q
  .subst h;simp
  .rw[if_neg h,if_neg (by simp;exact fun h'=>h h'.symm)]
theorem nV {x:Nat}(hf:m.n<=2^m.dp)(hx:x<m.n){L L':Nat->Bool}:∀{rs:List Rec} {b:Nat} {e e':E},(∀r∈rs,∀q,r.o.dst=some q->q<m.n)->(∀j r,rs[j]? =some r->r.o.dst=some x->L (b+j)=L' (b+j))->
 En.get (Pa.of m.dp x) e=En.get (Pa.of m.dp x) e'->En.get (Pa.of m.dp x) (eLg m L rs b e)=En.get (Pa.of m.dp x) (eLg m L' rs b e')
 |[],b,e,e',_,_,h=>h
 |r::rs,b,e,e',hfit,hL,h=>by
  simp only[eLg];refine nV hf hx (fun B A=>hfit B (by simp[A])) (fun j B G u=>by have:=hL (j+1) B (by simpa using G) u;rwa[bM]) ?_;have v:=hfit r (by simp);by_cases u:r.o.dst=some x
  .have C:=hL 0 r (by simp) u;simp only[ko]at C;rw[C];split
   .rw[vJ hf hx v,vJ hf hx v,if_pos u,if_pos u]
   .exact h
  .split<;>split<;>simp only[vJ hf hx v,if_neg u,h]
theorem TP {x:Nat}(hf:m.n<=2^m.dp)(hx:x<m.n){L:Nat->Bool}:∀{rs:List Rec} {b i:Nat} {e:E} {r:Rec},(∀r∈rs,∀q,r.o.dst=some q->q<m.n)->rs[i]? =some r->r.o.dst=some x->L (b+i)=true->
 (∀j r',rs[j]? =some r'->j≠i->r'.o.dst≠some x)->En.get (Pa.of m.dp x) (eLg m L rs b e)=r.t
 |[],b,i,e,r,_,hi,_,_,_=>by simp at hi
 |r0::rs,b,0,e,r,hfit,hi,hd,hL,hne=>by
  simp at hi;subst hi;simp only[ko]at hL;simp only[eLg,hL,if_true];have B:En.get (Pa.of m.dp x) (eLg m L rs (b+1) (uM m e r0.o.dst r0.t))=En.get (Pa.of m.dp x) (eLg m (fun _=>false) rs (b+1) (uM m e r0.o.dst r0.t)):=
   nV hf hx (fun r' u=>hfit r' (by simp[u])) (fun j r' A v=>absurd v (hne (j+1) r' (by simpa using A) (by omega))) rfl
  rw[B,uV _ _ _ _ (fun _ _=>rfl),vJ hf hx (hfit r0 (by simp)),if_pos hd]
 |r0::rs,b,i+1,e,r,hfit,hi,hd,hL,hne=>by
  simp only[eLg];refine TP hf hx (i:=i) (fun r' u=>hfit r' (by simp[u])) (by simpa using hi) hd (by rwa[bM]) fun j r' A C=>hne (j+1) r' (by simpa using A) (by omega)
theorem RE.same (re:RE ι m e er)(hg:∀x,x<m.n->En.get (Pa.of m.dp x) e'=En.get (Pa.of m.dp x) e):RE ι m e' er:=
 ⟨re.len,re.fit,fun i j=>by rw[hg i j];exact re.get i j⟩
theorem sH {o:Oper}{a:Act}{w:World}{K:Value->World->Prop}(H:aI P o.op o.type a.tmps.toList w.heap (fun v h'=>∀w',w'.heap=h'->Eng.Rest w w'->K v w')):Es P o a w K:=by
 unfold aI at H;have j:=H.2 w rfl;refine⟨H.1,?_⟩;have J:a.eval=ev a.tmps.toList:=by
  have:=dY a.tmps.toList a.defers;rw[lC]at this;exact this
 rw[J,bW];unfold dQ at j;unfold fH;split at j
 .rename_i v w' A;exact⟨j.1 w' rfl j.2,j.2⟩
 .rename_i w' A;exact⟨j.1 w' rfl j.2,j.2⟩
 .rename_i f B w' A;have G:=j.2;unfold gP at G;exact⟨j.1,Calls.mono G fun e' u ⟨v,q1,q2,q3⟩=>⟨v,q1,q2 u rfl (j.1.trans q3),q3⟩⟩
 .rename_i N f tmps I C w' A;exact⟨j.1,RoundIn.mono j.2 fun e' u ⟨v,q1,q2,q3⟩=>⟨v,q1,q2 u rfl (j.1.trans q3),q3⟩⟩
 .exact j.elim
end
end draw
end Go.Run
namespace Go.Run
open Go Go.Eng
section draw2
variable {P:Program}{p:Pr}{ι:Io}{s s':S}{h:Heap}{m:Fm}{e e':E}{er:Env}{ty:TypeId}{t:T}{K:Value->Heap->Prop}{cf:fG}
noncomputable def lis (listed:Array Bool)(j:Nat):Bool:=listed.getD j false
theorem uN {rs:List Rec}{i:Nat}{r:Rec}(h:rs[i]? =some r)(ho:r.ob.isSome=true):(fT (rs.take (i+1))).length=(fT (rs.take i)).length+1:=by
 unfold fT;rw[List.take_add_one,h,List.filter_append];simp[ho]
theorem uQ {rs:List Rec}{i j:Nat}(h:i<=j):(fT (rs.take i)).length<=(fT (rs.take j)).length:=by
 unfold fT;have:rs.take i=(rs.take j).take i:=by rw[List.take_take,tT h]
 rw[this];exact((List.take_sublist i (rs.take j)).filter _).length_le
theorem wu {rs:List Rec}{i:Nat}{r:Rec}(h:r∈(fT (rs.take i)).reverse++[]):∃j,j<i/\rs[j]? =some r/\r.ob.isSome=true:=by
 rw[Fx,List.mem_reverse]at h;unfold fT at h;rw[dM]at h;obtain⟨j,u⟩:=dL h.1;rw[eD]at u;split at u
 .rename_i v;exact⟨j,v,u,h.2⟩
 .cases u
section num
variable {all:List Oper}{L:List (Oper×PO)}{nb:Nat}{rs:List Rec}{ef:E}{sf:S}
theorem Tr.bne (T:Tr p m cf all 0 [] nb L e s rs ef sf){i j:Nat}{r r':Rec}(hi:rs[i]? =some r)(hj:rs[j]? =some r')(ho:r.ob.isSome=true)(ho':r'.ob.isSome=true)(hne:i≠j):r.b≠r'.b:=by
 have B:=T.num i r hi ho;have C:=T.num j r' hj ho';rcases Nat.lt_or_gt_of_ne hne with u|u
 .have v:=uN hi ho;have A:=uQ (rs:=rs) (show i+1<=j from u);omega
 .have v:=uN hj ho';have A:=uQ (rs:=rs) (show j+1<=i from u);omega
theorem Tr.blt (T:Tr p m cf all 0 [] nb L e s rs ef sf){i:Nat}{r:Rec}(hi:rs[i]? =some r)(ho:r.ob.isSome=true):nb<=r.b/\r.b<nb+uS L:=by
 have v:=T.num i r hi ho;have A:=uN hi ho;have u:=(aS.1 hi).1;have j:=uQ (rs:=rs) (show i+1<=rs.length from u);rw[List.take_length]at j;have B:=T.cnt;omega
end num
section
variable {i:Nat}
theorem Rb {all:List Oper}{l:List (Oper×PO)}(F:Db all l){f:Nat->Bool}(hc:Closed l f){x:Oper×PO}(hx:l[i]? =some x)(hd:∀d∈deps x.1,f d=true):
 ∀(k j:Nat) (y:Oper×PO),l.length-j<=k->l[j]? =some y->y.2.hi=i->f j=true:=by
 have I:=(aS.1 hx).1;intro k;induction k with
 |zero=>
  intro j y J B _;have:=(aS.1 B).1;omega
 |succ k ih=>
  intro j y J B G;rcases F.hi B with h|⟨C,z,u,A,v⟩
  .omega
  .have H:=F.dep u j A;rcases v with⟨v,N⟩|v
   .have:C=i:=by omega
    subst this;rw[hx]at u;cases u;exact hd j A
   .exact hc C z u (ih C z (by omega) u (v.trans G)) j A
theorem Ste.add {ι1:Io}{s1:S}{h1:Heap}(H:Ste ι s h ι1 s1 h1){b:Nat}(hn:ι1 b=none)(hb:s.nx<=b){obr:Obj}:Ste ι s h (ι1.put b ⟨h1.size,0,#[],0,0⟩) s1 (h1.push obr):=by
 have u:=Io.gU (x:=⟨h1.size,0,#[],0,0⟩) hn;refine⟨fun c x j=>u _ _ (H.sub _ _ j),H.nx,H.low,by rw[Array.size_push];have:=H.size;omega,H.dead,fun c x j=> ?_,H.am,fun r B A=> ?_⟩
 .unfold Io.put at j;split at j
  .rename_i v;cases j;subst v;exact .inr ⟨hb,.inl H.size⟩
  .exact H.grow c x j
 .rw[iq,if_neg (by have:=H.size;omega)];exact H.old r B A
theorem Qr {b:Nat}(hf:∀b x,ι b=some x->b<s.nx/\x.r<h.size)(hn:ι b=none){r:Rec}{obr:Obj}(H:Made P ι h r):Made P (ι.put b ⟨h.size,0,#[],0,0⟩) (h.push obr) r:=by
 have j:=Io.gU (x:=⟨h.size,0,#[],0,0⟩) hn;obtain⟨N,x,A,C,B,G,I,J⟩:=H;have O:=(hf _ _ B).2;refine⟨N,x,A,C,j _ _ B,by rw[iq,if_neg (by omega)];exact G,I.mono j,fun c y u v=> ?_⟩;unfold Io.put at u;split at u
 .cases u;have v:h.size=x.r:=v;omega
 .exact J c y u v
noncomputable def Fl (P:Program)(rs:List Rec)(f:Nat->Bool)(ι:Io)(s:S)(h:Heap)(q:Nat):Prop:=
 ∀i r,rs[i]? =some r->r.ob.isSome=true->q<=r.po.hi->s.at r.b=none/\r.b<s.nx/\(f i=true->Made P ι h r)/\(f i=false->ι r.b=none)
structure Ik (P:Program)(m:Fm)(L:List (Oper×PO))(rs:List Rec)(e:E)(sf:S)(ι:Io)(s:S)(h:Heap)(listed:Array Bool)(er:Env)(h':Heap):Prop where
 size:listed.size=L.length
 closed:Closed L (lis listed)
 st:∃ι' q,q<=L.length/\(∀y,L[q]? =some y->y.2.k=2/\lis listed q=false)/\(∀j y,j<q->L[j]? =some y->y.2.k=2->lis listed j=true)/\
  Ste ι s h ι' (dx rs sf q) h'/\Sim P ι' (dx rs sf q) h'/\RE ι' m (eLg m (lis listed) rs 0 e) er/\Fl P rs (lis listed) ι' (dx rs sf q) h' q
theorem Fq {listed:Array Bool}(hi:i<listed.size)(j:Nat):lis (listed.setIfInBounds i true) j=(if j=i then true else lis listed j):=by
 unfold lis;by_cases h:j=i
 .subst h;simp[hi]
 .rw[if_neg h];simp[lw,ib (Ne.symm h)]
theorem rY {listed:Array Bool}(hi:i<listed.size):listed.getD i true=lis listed i:=by
 unfold lis;simp[lw,hi]
theorem FK {ops:List Oper}{pl:List PO}(hl:pl.length=ops.length){o:Oper}(ho:ops[i]? =some o):∃po,(ops.zip pl)[i]? =some (o,po):=by
 obtain⟨j,u⟩:=aS.1 ho;refine⟨pl[i]'(by omega),?_⟩;rw[zD];exact⟨ho,aW _⟩
theorem WH {ops:List Oper}{pl:List PO}{x:Oper×PO}(hx:(ops.zip pl)[i]? =some x):ops[i]? =some x.1:=by
 obtain⟨o,j⟩:=x;rw[zD]at hx;exact hx.1
theorem Jp {o:Oper}{d:Nat}:d∈deps o<->∃e∈o.after,Region.binds .any e=true/\e.on=d:=by
 unfold deps;simp only[fo,dM,vC];constructor
 .rintro⟨e,⟨j,u⟩,v⟩;exact⟨e,j,u,v⟩
 .rintro⟨e,j,u,v⟩;exact⟨e,⟨j,u⟩,v⟩
theorem Bz {all:List Oper}{L:List (Oper×PO)}{nb:Nat}{rs:List Rec}{ef:E}{sf:S}(T:Tr p m cf all 0 [] nb L e s rs ef sf):∀(k i:Nat),i+k<=L.length->(∀(j:Nat) (y:Oper×PO),i<=j->j<i+k->L[j]? =some y->y.2.k≠2)->(∀(j:Nat) (y:Oper×PO),L[j]? =some y->y.2.k=0\/y.2.k=1\/y.2.k=2\/y.2.k=3)->dx rs sf (i+k)=dx rs sf i:=by
 intro k;induction k with
 |zero=>intro i _ _ _;rfl
 |succ k ih=>
  intro i Q I H;have A:i+k<L.length:=by omega
  obtain⟨r,C,B⟩:=T.get (i+k) _ (aW A);have G:=I (i+k) _ (by omega) (by omega) (aW A);have v:=H (i+k) _ (aW A);have O:dx rs sf (i+k+1)=r.s:=by
   cases hw:r.w with
   |false=>exact(B.skip hw).2
   |true=>
    have u:=B.run hw;rw[B.po]at u;unfold vN at u;rcases v with v|v|v|v
    .replace u:=u (by omega)
     rw[v]at u;simp only at u;split at u
     .split at u
      .simp only[Res.ok.injEq,Prod.mk.injEq]at u;exact u.2.symm
      .cases u
     .cases u
    .replace u:=u (by omega)
     rw[v]at u;simp only at u;split at u
     .simp only[Res.ok.injEq,Prod.mk.injEq]at u;exact u.2.symm
     .cases u
    .exact absurd v G
    .obtain⟨R,_,_,J⟩:=B.alc hw (by rw[B.po];exact v);exact J
  have N:dx rs sf (i+k)=r.s:=by simp[dx,C]
  show dx rs sf (i+k+1)=_;rw[O,<-N];exact ih i (by omega) (fun j y C B=>I j y C (by omega)) H
theorem F9 (o:Op):kindOf o=0\/kindOf o=1\/kindOf o=2\/kindOf o=3:=by
 unfold kindOf;split<;>first|(simp;done)|(split<;>simp)
end
section main
variable {ops:Array Oper}{pl:List PO}{rs:List Rec}{ef:E}{sf:S}
theorem QR (ok:Ok P p)(hcf:iN P cf)(hlen:pl.length=ops.toList.length)(F:Db ops.toList (ops.toList.zip pl)){s0:S}(T:Tr p m cf ops.toList 0 [] s.nx (ops.toList.zip pl) e s0 rs ef sf)
 (hrd:∀r∈rs,zo p m rs rs.length sf r=true) (hnx:∀r∈rs,r.s.nx<=1000000) (hnf:sf.nx<=1000000) (H0:Sim P ι s h) {d:List Deferred} {w0:World} {listed:Array Bool} {a:Act} {w:World} (ha:a.defers=d) (hw0:Eng.Rest w0 w)
 (I:Ik P m (ops.toList.zip pl) rs e sf ι s h listed a.tmps.toList w.heap) {i:Nat} (hi:i∈kC .any ops listed):
 opD P ops i (fun a' w'=>a'.defers=d/\Eng.Rest w0 w'/\Ik P m (ops.toList.zip pl) rs e sf ι s h (listed.setIfInBounds i true) a'.tmps.toList w'.heap) a w:=by
 obtain⟨hun,o,ho,hall⟩:=mem_ready.1 hi;have B:ops.toList[i]? =some o:=by simpa using ho
 obtain⟨po,hx⟩:=FK hlen B;have hilt:i<listed.size:=by rw[I.size];exact(aS.1 hx).1
 have hfi:lis listed i=false:=by rw[<-rY hilt];exact hun
 have Z:∀d∈deps o,lis listed d=true:=by
  intro d hd;obtain⟨e',H,C,h3⟩:=Jp.1 hd;have:=hall e' H C;rw[h3]at this;exact this
 have O:=Fq (listed:=listed) (i:=i) hilt;have hcl:Closed (ops.toList.zip pl) (lis (listed.setIfInBounds i true)):=by
  intro j x hj hf d hd;rw[O]at hf ⊢;split
  .rfl
  .split at hf
   .rename_i hji;subst hji;rw[hx]at hj;cases hj;exact Z d hd
   .exact I.closed j x hj hf d hd
 obtain⟨r,hr,R⟩:=T.get i _ hx;obtain⟨ι',q,hq,hq1,hq2,g1,g2,g3,g4⟩:=I.st;have hfits:∀r∈rs,∀q,r.o.dst=some q->q<m.n:=by
  intro r hr q hq;obtain⟨j,hj⟩:=dL hr;have hjl:j<(ops.toList.zip pl).length:=by rw[<-T.len];exact(aS.1 hj).1
  obtain⟨J,H,C⟩:=T.get j _ (aW hjl);rw[hj]at H;cases H;exact C.fit q hq
 have hrec:∀(j:Nat) (r:Rec),rs[j]? =some r->∃y:Oper×PO,(ops.toList.zip pl)[j]? =some y/\r.o=y.1:=by
  intro j r hj;have hjl:j<(ops.toList.zip pl).length:=by rw[<-T.len];exact(aS.1 hj).1
  obtain⟨J,H,C⟩:=T.get j _ (aW hjl);rw[hj]at H;cases H;exact⟨_,aW hjl,C.o⟩
 have hro:r.o=o:=R.o;have G:r.po=po:=R.po;have hlook:∀x∈looks ops.toList o,bu m r.e x=bu m (eLg m (lis listed) rs 0 e) x:=by
  intro x hxl;have he:r.e=eLg m (fun j=>decide (j<0+i)) rs 0 e:=by
   rw[<-T.env i 0 (Nat.le_of_lt (aS.1 hr).1)];simp[GQ,hr]
  unfold bu;rw[aJ,aJ];split
  .rename_i hxm;have hxm:x<m.n:=aH.1 hxm;rw[he];refine nV g3.fit hxm hfits (fun j J hj hd=> ?_) rfl;obtain⟨y,N,hyo⟩:=hrec j J hj;rw[hyo]at hd;simp only[ek];by_cases hij:i=j
   .subst hij;rw[hfi];simp
   .rcases(F.slots hx N hij x hd).2 hxl with H|H
    .rw[Z j H];have:=F.dep hx j H;simpa using this
    .have C:=F.dep N i H;have h3:lis listed j=false:=by
      cases hb:lis listed j with
      |false=>rfl
      |true=>have:=I.closed j y N hb i H;rw[hfi]at this;cases this
     rw[h3];simp;omega
  .rfl
 have W:Agree m r.e (eLg m (lis listed) rs 0 e) (opsOf o.op):=Gp hlook;have Q:wants m ops.toList o.guard (eLg m (lis listed) rs 0 e)=some r.w:=by
  rw[<-JV hlook];have:=R.want;rwa[hro]at this
 have Q:=qR g3 Q;rw[lC,lC]at Q;have hdst:∀q,o.dst=some q->q<m.n:=by have:=R.fit;rwa[hro]at this
 have hframe:∀{ι2:Io} {U:Env},RE ι2 m (uM m (eLg m (lis listed) rs 0 e) o.dst r.t) U->RE ι2 m (eLg m (lis (listed.setIfInBounds i true)) rs 0 e) U:=by
  intro ι2 U re2;refine re2.same fun x hxm=> ?_
  rw[vJ g3.fit hxm hdst];split
  .rename_i hd;refine TP g3.fit hxm (i:=i) hfits hr (by rw[hro];exact hd) (by rw[ek,O,if_pos rfl]) fun j J hj hji hd'=> ?_
   obtain⟨y,N,hyo⟩:=hrec j J hj;rw[hyo]at hd';exact(F.slots hx N (Ne.symm hji) x hd').1 hd
  .rename_i hd;refine nV g3.fit hxm hfits (fun j J hj hd'=> ?_) rfl;rw[ek,O,if_neg];rintro rfl;rw[hr]at hj;cases hj;rw[hro]at hd';exact hd hd'
 have hkinds:∀(j:Nat) (y:Oper×PO),(ops.toList.zip pl)[j]? =some y->y.2.k=0\/y.2.k=1\/y.2.k=2\/y.2.k=3:=by
  intro j y N;rw[F.kind N];exact F9 _
 have hrm:r∈rs:=bQ hr;have hqhi:q<=po.hi:=by
  rcases Nu F I.closed _ i _ (bi _) hx hfi with H|⟨y,H,C,h3⟩
  .have H:(ops.toList.zip pl).length<=po.hi:=H;omega
  .have h3:lis listed po.hi=false:=h3;have:¬po.hi<q:=fun hlt=>by have:=hq2 po.hi y hlt H C;rw[h3]at this;cases this
   omega
 have light:po.k≠2->∀{ι2:Io} {U:Env} {C:Heap},Ste ι s h ι2 (dx rs sf q) C->Sim P ι2 (dx rs sf q) C->RE ι2 m (uM m (eLg m (lis listed) rs 0 e) o.dst r.t) U->
  Fl P rs (lis (listed.setIfInBounds i true)) ι2 (dx rs sf q) C q->Ik P m (ops.toList.zip pl) rs e sf ι s h (listed.setIfInBounds i true) U C:=by
  intro hk ι2 U C k1 k2 k3 k4;refine⟨by simp[I.size],hcl,ι2,q,hq,fun y N=> ?_,fun j y hj N hyk=> ?_,k1,k2,hframe k3,k4⟩
  .refine⟨(hq1 y N).1,?_⟩;rw[O,if_neg]
   .exact(hq1 y N).2
   .rintro rfl;rw[hx]at N;cases N;exact hk (hq1 _ hx).1
  .rw[O];split
   .rfl
   .exact hq2 j y hj N hyk
 have keep:r.ob=none->∀{ι2:Io} {C:Heap},Ste ι' (dx rs sf q) w.heap ι2 (dx rs sf q) C->Fl P rs (lis (listed.setIfInBounds i true)) ι2 (dx rs sf q) C q:=by
  intro hob ι2 C k1 i' J A B hh';obtain⟨b1,b2,b3,b4⟩:=g4 i' J A B hh';obtain⟨c1,c2,c3⟩:=Di g2 k1 b1 b2;have hne:i'≠i:=by
   rintro rfl;rw[hr]at A;cases A;rw[hob]at B;cases B
  rw[O,if_neg hne];exact⟨b1,b2,fun hl=>c3 (b3 hl),fun hl=>c2 (b4 hl)⟩
 have strong:po.k=2->q=i:=by
  intro hk;have H:¬i<q:=fun hlt=>by have:=hq2 i _ hlt hx hk;rw[hfi]at this;cases this
  have C:¬q<i:=fun hlt=>by
   have hql:q<(ops.toList.zip pl).length:=Nat.lt_trans hlt (aS.1 hx).1;have N:=aW hql;have:=before F I.closed i _ hx hk Z q _ N hlt (hq1 _ N).1;rw[(hq1 _ N).2]at this;cases this
  omega
 have acted:po.k=2->∀{ι2:Io} {U:Env} {C:Heap},Ste ι s h ι2 (dx rs sf (i+1)) C->Sim P ι2 (dx rs sf (i+1)) C->RE ι2 m (uM m (eLg m (lis listed) rs 0 e) o.dst r.t) U->
  (∀i' J,rs[i']? =some J->J.ob.isSome=true->i<J.po.hi->(dx rs sf (i+1)).at J.b=none/\J.b<(dx rs sf (i+1)).nx/\(lis listed i'=true->Made P ι2 C J)/\(lis listed i'=false->ι2 J.b=none))->
  Ik P m (ops.toList.zip pl) rs e sf ι s h (listed.setIfInBounds i true) U C:=by
  intro hk ι2 U C k1 k2 k3 k4;have hqi:=strong hk;have hil:i+1<=(ops.toList.zip pl).length:=(aS.1 hx).1;obtain⟨q',p1,p2,p3,p4⟩:=yx (ops.toList.zip pl) _ (i+1) (bi _) hil;obtain⟨k,rfl⟩:∃k,q'=i+1+k:=⟨q'-(i+1),by omega⟩;have hsame:=Bz T k (i+1) p2 (fun j y H C N=>p4 j y H C N) hkinds;refine⟨by simp[I.size],hcl,ι2,i+1+k,p2,fun y N=>⟨p3 y N,?_⟩,fun j y hj N hyk=> ?_,by rw[hsame];exact k1,by rw[hsame];exact k2,hframe k3,?_⟩
  .rw[O,if_neg (by omega)];cases hb:lis listed (i+1+k)with
   |false=>rfl
   |true=>
    have:=before F I.closed _ y N (p3 y N) (I.closed _ y N hb) i _ hx (by omega) hk;rw[hfi]at this;cases this
  .rw[O];split
   .rfl
   .rename_i hji;by_cases hj2:j<i
    .exact hq2 j y (by omega) N hyk
    .exact absurd hyk (p4 j y (by omega) hj N)
  .intro i' J A B hh';have hne:i'≠i:=by
    rintro rfl;rw[hr]at A;cases A;have:=R.none (.inr (by rw[G];omega));rw[this]at B;cases B
   rw[hsame,O,if_neg hne];exact k4 i' J A B (by omega)
 unfold opD;simp only[ho];cases hw:r.w with
 |false=>
  rw[hw]at Q;simp only[Q,eB,if_false];obtain⟨ht,hs1⟩:=R.skip hw;have hput:(a.put o.dst undef).tmps.toList=aU a.tmps.toList o.dst undef:=by cases o.dst<;>simp[Act.put,aU]
  have hdf:(a.put o.dst undef).defers=d:=by rw[<-ha];cases o.dst<;>rfl
  refine⟨hdf,hw0,?_⟩;rw[hput];have k3:RE ι' m (uM m (eLg m (lis listed) rs 0 e) o.dst r.t) (aU a.tmps.toList o.dst undef):=by
   rw[ht];exact g3.put hdst uI
  have hob:=R.none (.inl hw);by_cases hk:po.k=2
  .have hqi:=strong hk;have hsq:dx rs sf (i+1)=dx rs sf q:=by rw[hs1,hqi];simp[dx,hr]
   exact acted hk (by rw[hsq];exact g1) (by rw[hsq];exact g2) k3 (by rw[hsq];exact fun i' J A B hh'=>g4 i' J A B (by omega))
  .exact light hk g1 g2 k3 (keep hob (Ste.refl ..))
 |true=>
  rw[hw]at Q;simp only[Q,if_true];have fin:∀{s1 sN:S},(∀{ι2:Io} {U:Env} {C:Heap},Ste ι' s1 w.heap ι2 sN C->Sim P ι2 sN C->RE ι2 m (uM m (eLg m (lis listed) rs 0 e) o.dst r.t) U->Ik P m (ops.toList.zip pl) rs e sf ι s h (listed.setIfInBounds i true) U C)->
   aI P o.op o.type a.tmps.toList w.heap (Post P ι' s1 w.heap r.t sN)->Es P o a w (fun v w'=>(a.put o.dst v).defers=d/\Eng.Rest w0 w'/\Ik P m (ops.toList.zip pl) rs e sf ι s h (listed.setIfInBounds i true) (a.put o.dst v).tmps.toList w'.heap):=by
   intro s1 sN hinv hsem;refine sH (bH ?_ hsem);rintro v h' ⟨ι2,k1,k2,k3⟩ w' hw' A;subst hw';have hput:(a.put o.dst v).tmps.toList=aU a.tmps.toList o.dst v:=by cases o.dst<;>simp[Act.put,aU]
   have hdf:(a.put o.dst v).defers=d:=by rw[<-ha];cases o.dst<;>rfl
   refine⟨hdf,hw0.trans A,?_⟩;rw[hput];exact hinv k1 k2 ((g3.mono k1.sub).put hdst k3)
  have hnq:(dx rs sf q).nx<=1000000:=by
   unfold dx;split
   .rename_i J A;exact hnx J (bQ A)
   .exact hnf
  rcases F9 o.op with hk|hk|hk|hk
  .have hpk:po.k=0:=by have:=F.kind hx;exact this.trans hk
   have hob:=R.none (.inr (by rw[G];omega));have u:=R.run hw (by rw[G];omega);rw[hro,G]at u;rw[hpk]at u;unfold vN at u;simp only at u;split at u
   .rename_i t' s1 hst;split at u
    .rename_i hc;simp only[aF]at hc;simp only[Res.ok.injEq,Prod.mk.injEq]at u;rw[oC W]at hst;refine fin (s1:=dx rs sf q) (sN:=dx rs sf q) (fun k1 k2 k3=>light (by omega) (g1.trans H0.fresh k1) k2 k3 (keep hob k1)) ?_;have:=Kc (ty:=o.type) ok g3 g2 hnq hst (aC hc.1) (aH.1 hc.2);rw[u.1]at this;exact this
    .cases u
   .cases u
  .have hpk:po.k=1:=by have:=F.kind hx;exact this.trans hk
   have hob:=R.none (.inr (by rw[G];omega));have u:=R.run hw (by rw[G];omega);rw[hro,G]at u;have V:=hrd r hrm;unfold zo at V;rw[hw,G,hpk]at V;have hb1:(true&&aX 1 1)=true:=rfl;rw[hb1]at V;simp only[aF]at V;have hlo:po.lo<=q:=by
    rcases Oj F I.closed i _ hx Z with H|⟨c,y,H,C,h3,h4⟩
    .have H:po.lo=0:=H;omega
    .have H:po.lo=c+1:=H;have:¬q<=c:=fun hqc=>by
      have hql:q<(ops.toList.zip pl).length:=Nat.lt_of_le_of_lt hqc (aS.1 C).1;have N:=aW hql;by_cases hqc':q=c
      .subst hqc';have:=(hq1 _ C).2;rw[h4]at this;cases this
      .have:=before F I.closed c y C h3 (I.closed c y C h4) q _ N (by omega) (hq1 _ N).1;rw[(hq1 _ N).2]at this;cases this
     omega
   have hhi:q<=po.hi:=by
    rcases Nu F I.closed _ i _ (bi _) hx hfi with H|⟨y,H,C,h3⟩
    .have H:(ops.toList.zip pl).length<=po.hi:=H;omega
    .have h3:lis listed po.hi=false:=h3;have:¬po.hi<q:=fun hlt=>by have:=hq2 po.hi y hlt H C;rw[h3]at this;cases this
     omega
   have hrok:GD p m r (dx rs sf q)=true:=by
    by_cases hqn:q=rs.length
    .have H:=V.2;rw[<-hqn,aH.2 hlo,aH.2 hhi]at H;have C:dx rs sf q=sf:=by rw[hqn];simp[dx]
     rw[C];exact H
    .have hql:q<rs.length:=by have:=T.len;omega
     have hql':q<(ops.toList.zip pl).length:=by have:=T.len;omega
     have H:=nK V.1 q _ (aW hql);obtain⟨rq,u1,u2⟩:=T.get q _ (aW hql');rw[aW hql]at u1;have u1:=Option.some.inj u1;have hkq:rs[q].po.k=2:=by
      rw[u1,u2.po];exact(hq1 _ (aW hql')).1
     simp only[ek]at H;rw[wH.2 hkq,aH.2 hlo,aH.2 hhi]at H;have C:dx rs sf q=rs[q].s:=by simp[dx,hql]
     rw[C];exact H
   unfold GD at hrok;split at hrok
   .rename_i t' s1 hst;have:=jV hrok;subst this;rw[hro,oC W]at hst;exact fin (s1:=dx rs sf q) (sN:=dx rs sf q) (fun k1 k2 k3=>light (by omega) (g1.trans H0.fresh k1) k2 k3 (keep hob k1)) (Mf ok g3 g2 hk hst)
   .cases hrok
  .have hpk:po.k=2:=by have:=F.kind hx;exact this.trans hk
   have hob:=R.none (.inr (by rw[G];omega));have u:=R.run hw (by rw[G];omega);rw[hro,G]at u;have hqi:=strong hpk;rw[hpk]at u;unfold vN at u;simp only at u;split at u
   .rw[NS W]at u;have hs:r.s=dx rs sf q:=by rw[hqi];simp[dx,hr]
    rw[hs]at u;have hal:∀J∈(fT (rs.take i)).reverse++[],J.ob.isSome=true->J.po.hi=i->Made P ι' w.heap J:=by
     intro J A B hh';obtain⟨j,hj,hjr,_⟩:=wu A;have hjl:j<(ops.toList.zip pl).length:=by rw[<-T.len];exact(aS.1 hjr).1
     have hjx:=aW hjl;obtain⟨r'',u1,u2⟩:=T.get j _ hjx;rw[hjr]at u1;cases u1;have hlj:=Rb F I.closed hx Z _ j _ (bi _) hjx (by rw[<-u2.po];exact hh');exact(g4 j J hjr B (by omega)).2.2.1 hlj
    rw[ek]at u;have hsim:=vT _ i g2 hal;have hbs:∀J∈(fT (rs.take i)).reverse++[],J.ob.isSome=true->s.nx<=J.b:=by
     intro J A B;obtain⟨j,hj,hjr,_⟩:=wu A;exact(T.blt hjr B).1
    have hste:=PP H0 g1 (al:=(fT (rs.take i)).reverse++[]) (q:=i) hbs;refine fin (s1:=act ((fT (rs.take i)).reverse++[]) i (dx rs sf q)) (sN:=dx rs sf (i+1)) (fun k1 k2 k3=>acted hpk (hste.trans H0.fresh k1) k2 k3 ?_) (Cc ok hcf u g3 hsim);intro i' J A B hh';obtain⟨b1,b2,b3,b4⟩:=g4 i' J A B (by omega);have hat:(act ((fT (rs.take i)).reverse++[]) i (dx rs sf q)).at J.b=none:=by
     rw[Mh]
     .exact b1
     .intro r2 hr2 ho2 hh2;obtain⟨j,hj,hjr,_⟩:=wu hr2;refine T.bne hjr A ho2 B ?_;rintro rfl;rw[hjr]at A;cases A;omega
    have hnx1:=(Bl ((fT (rs.take i)).reverse++[]) i (dx rs sf q)).1;obtain⟨c1,c2,c3⟩:=Di hsim k1 (r:=J) hat (by rw[hnx1];exact b2);exact⟨c1,by have:=k1.nx;omega,fun hl=>c3 (b3 hl),fun hl=>c2 (b4 hl)⟩
   .cases u
  .have hpk:po.k=3:=by have:=F.kind hx;exact this.trans hk
   obtain⟨ob,hob,hall,hs1⟩:=R.alc hw (by rw[G];exact hpk);have hosome:r.ob.isSome=true:=by rw[hob];rfl
   obtain⟨b1,b2,_,b4⟩:=g4 i r hr hosome (by rw[G];exact hqhi);have hnone:=b4 hfi;have hall':nH p m o (eLg m (lis listed) rs 0 e) r.b=some (r.t,ob):=by
    rw[hro]at hall;unfold nH at hall ⊢;rw[<-oC W];exact hall
   have hsem:=(BJ (h:=w.heap) ok hnone g3 hk hall').1;refine sH (bH ?_ hsem);rintro v h' ⟨obr,rfl,k1,k2⟩ w' hw' A;have hput:(a.put o.dst v).tmps.toList=aU a.tmps.toList o.dst v:=by cases o.dst<;>simp[Act.put,aU]
   have hdf:(a.put o.dst v).defers=d:=by rw[<-ha];cases o.dst<;>rfl
   refine⟨hdf,hw0.trans A,?_⟩;rw[hput,hw'];have hsub:=Io.gU (x:=⟨w.heap.size,0,#[],0,0⟩) hnone;refine light (by omega) (g1.add hnone (T.blt hr hosome).1) (g2.add hnone b2 b1) ((g3.mono hsub).put hdst k2) ?_;intro i' J hr2 B hh';rw[O];by_cases hne:i'=i
   .subst hne;rw[hr]at hr2;cases hr2;refine⟨b1,b2,fun _=> ?_,fun hl=>by simp at hl⟩;refine⟨ob,⟨w.heap.size,0,#[],0,0⟩,obr,hob,Io.dm,by simp,k1,fun c y hc N=> ?_⟩;unfold Io.put at hc;split at hc
    .assumption
    .have H:=(g2.fresh c y hc).2;have N:y.r=w.heap.size:=N;omega
   .rw[if_neg hne];obtain⟨d1,d2,d3,d4⟩:=g4 i' J hr2 B hh';have hbne:=T.bne hr2 hr B hosome hne;refine⟨d1,d2,fun hl=>Qr g2.fresh hnone (d3 hl),fun hl=> ?_⟩;unfold Io.put;rw[if_neg hbne];exact d4 hl
end main
end draw2
end Go.Run
namespace Go.Run
open Go Go.Eng
section draw3
variable {P:Program}{p:Pr}{ι:Io}{s s':S}{h:Heap}{m:Fm}{e e':E}{er:Env}{ty:TypeId}{t:T}{K:Value->Heap->Prop}{cf:fG}
variable {ops:Array Oper}{pl:List PO}{rs:List Rec}{ef:E}{sf:S}
theorem KY {all:List Oper}(hlen:pl.length=ops.toList.length)(F:Db all (ops.toList.zip pl)){listed:Array Bool}(hs:listed.size=(ops.toList.zip pl).length)(h0:kC .any ops listed=[]):∀i,i<listed.size->lis listed i=true:=by
 intro i;induction i using GA with
 |_ i ih=>
  intro G;cases hb:lis listed i with
  |true=>rfl
  |false=>
   have u:i<(ops.toList.zip pl).length:=by omega
   have A:=aW u;have H:=WH A;have:i∈kC .any ops listed:=by
    refine mem_ready.2 ⟨by rw[rY G];exact hb,_,(by rw[<-Array.getElem?_toList];exact H),fun e' C j=> ?_⟩;have B:e'.on∈deps (ops.toList.zip pl)[i].1:=Jp.2 ⟨e',C,j,rfl⟩;have v:=F.dep A _ B;exact ih _ v (by omega)
   rw[h0]at this;cases this
noncomputable def unl (listed:Array Bool):List Nat:=(List.range listed.size).filter fun j=> !lis listed j
theorem V6 {listed:Array Bool}{i:Nat}(hi:i<listed.size)(hf:lis listed i=false):(unl (listed.setIfInBounds i true)).length<(unl listed).length:=by
 unfold unl;rw[Array.size_setIfInBounds];refine filter_lt _ _ ?_ i (by simp[hf]) ?_ _ (by simp[hi])
 .intro x j;rw[Fq hi]at j;split at j
  .cases j
  .exact j
 .rw[Fq hi,if_pos rfl];rfl
theorem Ub (ok:Ok P p)(hcf:iN P cf)(hlen:pl.length=ops.toList.length)(F:Db ops.toList (ops.toList.zip pl)){s0:S}(T:Tr p m cf ops.toList 0 [] s.nx (ops.toList.zip pl) e s0 rs ef sf)
 (hrd:∀r∈rs,zo p m rs rs.length sf r=true) (hnx:∀r∈rs,r.s.nx<=1000000) (hnf:sf.nx<=1000000) (H0:Sim P ι s h) (hfit:∀r∈rs,∀q,r.o.dst=some q->q<m.n) {d:List Deferred} {w0:World} {l:Option Nat} {Q:Exit->Act->World->Prop}
 (hQ:∀a w',a.defers=d->Eng.Rest w0 w'->(∃ι',Ste ι s h ι' (act rs rs.length sf) w'.heap/\Sim P ι' (act rs rs.length sf) w'.heap/\RE ι' m ef a.tmps.toList)->Q .normal a w'):
 ∀(fuel:Nat) (listed:Array Bool) (a:Act) (w:World),(unl listed).length<=fuel->a.defers=d->Eng.Rest w0 w->Ik P m (ops.toList.zip pl) rs e sf ι s h listed a.tmps.toList w.heap->
  wpAnyIn (fen l) 0 P .any ops Q fuel listed a w:=by
 have A:∀(listed:Array Bool) (a:Act) (w:World),a.defers=d->Eng.Rest w0 w->Ik P m (ops.toList.zip pl) rs e sf ι s h listed a.tmps.toList w.heap->(∀i,i<listed.size->lis listed i=true)->Q .normal a w:=by
  intro listed a w O U I u;obtain⟨ι',q,hq,hq1,hq2,g1,g2,g3,g4⟩:=I.st;have V:q=(ops.toList.zip pl).length:=by
   rcases sD q (ops.toList.zip pl).length with J|hge
   .have:=(hq1 _ (aW J)).2;rw[u q (by rw[I.size];exact J)]at this;cases this
   .omega
  have hsf:dx rs sf q=sf:=by
   rw[V,<-T.len];simp[dx]
  rw[hsf]at g1 g2 g4;have hqr:q=rs.length:=by rw[V,T.len]
  have N:∀r∈rs,r.ob.isSome=true->r.po.hi=rs.length->Made P ι' w.heap r:=by
   intro r W ho hh;obtain⟨j,R⟩:=dL W;have H:j<listed.size:=by rw[I.size,<-T.len];exact(aS.1 R).1
   exact(g4 j r R ho (by omega)).2.2.1 (u j H)
  have hbs:∀r∈rs,r.ob.isSome=true->s.nx<=r.b:=by
   intro r W ho;obtain⟨j,R⟩:=dL W;exact(T.blt R ho).1
  refine hQ a w O U ⟨ι',PP H0 g1 hbs,vT _ _ g2 N,g3.same fun x Z=> ?_⟩;have B:=T.env rs.length 0 (bi _);have C:GQ rs ef rs.length=ef:=by simp[GQ]
  rw[<-C,B];refine nV g3.fit Z hfit (fun j r R _=> ?_) rfl;have H:=(aS.1 R).1;have:=T.len;simp only[ek];rw[u j (by rw[I.size];omega)];simpa using H
 intro fuel;induction fuel with
 |zero=>
  intro listed a w hu O U I;have u:∀i,i<listed.size->lis listed i=true:=by
   intro i G;cases hb:lis listed i with
   |true=>rfl
   |false=>
    have B:i∈unl listed:=by unfold unl;simp[G,hb]
    have C:unl listed=[]:=List.eq_nil_of_length_eq_zero (by omega);rw[C]at B;cases B
  refine⟨?_,A listed a w O U I u⟩;cases W:kC .any ops listed with
  |nil=>rfl
  |cons i rest=>
   have G:i∈kC .any ops listed:=by rw[W];simp
   obtain⟨B,o,C,_⟩:=mem_ready.1 G;have v:i<listed.size:=by
    rw[I.size];obtain⟨po,Z⟩:=FK hlen (show ops.toList[i]? =some o by simpa using C);exact(aS.1 Z).1
   rw[rY v,u i v]at B;cases B
 |succ fuel ih=>
  intro listed a w hu O U I;refine⟨fun h0=>A listed a w O U I (KY hlen F I.size h0),fun i G=> ?_⟩;have v:i<listed.size:=by
   obtain⟨_,o,C,_⟩:=mem_ready.1 G;rw[I.size];obtain⟨po,Z⟩:=FK hlen (show ops.toList[i]? =some o by simpa using C);exact(aS.1 Z).1
  have hf:lis listed i=false:=by rw[<-rY v];exact(mem_ready.1 G).1
  have J:=V6 v hf;exact wpOpIn_mono (fun a' w' h'=>ih _ a' w' (by omega) h'.1 h'.2.1 h'.2.2) (mh (QR ok hcf hlen F T hrd hnx hnf H0 O U I G))
noncomputable def exR:Ex->Exit| .normal=> .normal| .exit i=> .exit i| .goto i=> .goto i| .ret=> .ret
noncomputable def DL (ι:Io):List Nat->List Deferred->Prop
 |[],l=>l=[]
 |b::ds,l=>∃y r,ι b=some y/\l={target:= .collected y.r,args:= #[]}::r/\DL ι ds r
theorem DL.mono {ι ι':Io}(hs:Sub ι ι'):∀{d:List Nat} {l:List Deferred},DL ι d l->DL ι' d l
 |[],l,h=>h
 |b::ds,l,⟨y,r,h1,h2,h3⟩=>⟨y,r,hs _ _ h1,h2,DL.mono hs h3⟩
noncomputable def CP (P:Program)(ι:Io)(s:S)(h:Heap)(m:Fm)(o:Out):aj:=fun x er dr h'=>x=exR o.x/\∃ι',Ste ι s h ι' o.s h'/\Sim P ι' o.s h'/\RE ι' m o.e er/\DL ι' o.d dr
noncomputable def RO (ι:Io):Option Nat->Option Nat->Prop
 |none,l=>l=none
 |some b,l=>∃y,ι b=some y/\l=some y.r
theorem RO.mono {ι ι':Io}(hs:Sub ι ι'):∀{b:Option Nat} {l:Option Nat},RO ι b l->RO ι' b l
 |none,l,h=>h
 |some b,l,⟨y,h1,h2⟩=>⟨y,hs _ _ h1,h2⟩
noncomputable def Snd (P:Program)(self:ae):Prop:=
 ∀m ro c e d s o,self m ro c e d s= .ok o->∀ι er dr h l,RE ι m e er->Sim P ι s h->DL ι d dr->RO ι ro l->WP l P c (CP P ι s h m o) er dr h
theorem bN {l:Option Nat}{c:Code}{k:aj}{er:Env}{d:List Deferred}{h:Heap}(H:∀w:World,w.heap=h->c.wpIn (fen l) 0 P (fun x a w'=>k x a.tmps.toList a.defers w'.heap/\Eng.Rest w w') ⟨er.toArray,d⟩ w):WP l P c k er d h:=by
 unfold WP;exact H
theorem dH {l:Option Nat}{c:Code}{k:aj}{er:Env}{d:List Deferred}{h:Heap}(H:WP l P c k er d h):∀w:World,w.heap=h->c.wpIn (fen l) 0 P (fun x a w'=>k x a.tmps.toList a.defers w'.heap/\Eng.Rest w w') ⟨er.toArray,d⟩ w:=by
 unfold WP at H;exact H
theorem Eh (ok:Ok P p){self:ae}(hcf:iN P (iJ p self)){id:Nat}{ops:Array Oper}{d:List Nat}{o:Out}(hd:Bb p self m ops e d s= .ok o){dr:List Deferred}{l:Option Nat}(re:RE ι m e er)(H:Sim P ι s h)(D:DL ι d dr):
 WP l P (.region id ops false) (CP P ι s h m o) er dr h:=by
 unfold Bb at hd;split at hd
 .rename_i v s1 B;cases hd;refine bN fun w C=>wpIn_region_list ?_
  have:=qd (l:=l) (d:=dr) (w:=w) (w0:=w) (Q:=fun x a u=>CP P ι s h m ⟨.normal,v,d,s1⟩ x a.tmps.toList a.defers u.heap/\Eng.Rest w u) ok hcf ops.toList e s B re H C (Eng.Rest.refl w) fun a u A j ⟨ι',q1,q2,q3⟩=>
   ⟨⟨rfl,ι',q1,q2,q3,by rw[A];exact D.mono q1.sub⟩,j⟩
  simpa using this
 .cases hd
theorem NH (ok:Ok P p){self:ae}(hcf:iN P (iJ p self)){id:Nat}{ops:Array Oper}{d:List Nat}{o:Out}(hd:NJ p self m ops e d s= .ok o){dr:List Deferred}{l:Option Nat}(re:RE ι m e er)(H:Sim P ι s h)(D:DL ι d dr):
 WP l P (.region id ops true) (CP P ι s h m o) er dr h:=by
 unfold NJ at hd;split at hd
 .rename_i hp;simp only[aF]at hp;have B:=aC hp.2;have F:=G9 hp.1;split at hd
  .rename_i e1 s1 A;cases hd;obtain⟨rs,ef,sf,T,G⟩:=rF A;split at G
   .rename_i R;rw[qw]at G;simp only[Res.ok.injEq,Prod.mk.injEq]at G;obtain⟨rfl,rfl⟩:=G;simp only[aF]at R;have hrd:=fun r A=>bJ.1 R.1.1 r A
    have hnx:=fun r A=>aH.1 (bJ.1 R.1.2 r A)
    have hnf:=aH.1 R.2;have C:∀r∈rs,∀q,r.o.dst=some q->q<m.n:=by
     intro r A q hq;obtain⟨j,U⟩:=dL A;have Z:j<(ops.toList.zip (oh ops.toList)).length:=by rw[<-T.len];exact(aS.1 U).1
     obtain⟨r',O,h2⟩:=T.get j _ (aW Z);rw[U]at O;cases O;exact h2.fit q hq
    refine bN fun w hw=>wpIn_region_any ok.mixed ?_
    have hsz:(ops.toList.zip (oh ops.toList)).length=ops.size:=by rw[List.length_zip,B];simp
    have u:∀j,lis (xG ops.size false) j=false:=by
     intro j;unfold lis;simp[lw,Array.getElem?_replicate];split<;>rfl
    obtain⟨q,p1,p2,p3,p4⟩:=yx (ops.toList.zip (oh ops.toList)) _ 0 (bi _) (Bd _);have v:∀(j:Nat) (y:Oper×PO),(ops.toList.zip (oh ops.toList))[j]? =some y->y.2.k=0\/y.2.k=1\/y.2.k=2\/y.2.k=3:=by
     intro j y N;rw[F.kind N];exact F9 _
    have I:dx rs sf q=⟨s.V,s.nx+uS (ops.toList.zip (oh ops.toList)),s.low⟩:=by
     have:=Bz T q 0 (by omega) (fun j y O h2 N=>p4 j y O (by omega) N) v;rw[ek]at this;rw[this,T.zero]
    refine Ub (w0:=w) ok hcf B F T hrd hnx hnf H C (d:=dr) (Q:=fun x a w'=>CP P ι s h m ⟨.normal,ef,d,act rs rs.length sf⟩ x a.tmps.toList a.defers w'.heap/\Eng.Rest w w') (fun a w' W hr' ⟨ι',q1,q2,q3⟩=>⟨⟨rfl,ι',q1,q2,q3,by rw[W];exact D.mono q1.sub⟩,hr'⟩)
     ops.size (xG ops.size false) ⟨er.toArray,dr⟩ {w with drawn:=w.drawn+1} ?_ rfl ⟨rfl,rfl,rfl⟩ ⟨by simp[hsz],fun i x _ hf=>(by rw[u]at hf;cases hf),ι,q,p2,fun y N=>⟨p3 y N,u q⟩,fun j y U N G=>absurd G (p4 j y (Bd _) U N),?_,?_,?_,?_⟩
    .unfold unl;refine fw (List.length_filter_le _ _) ?_;simp
    .rw[I];subst hw;exact⟨fun _ _ h=>h,OD _ _,bi _,bi _,fun _ _ h=>h,fun _ _ h=> .inl h,fun _ _ _ h=>h,fun _ _ _=>rfl⟩
    .rw[I];subst hw;exact⟨fun b x J=>⟨bv (H.fresh b x J).1 (OD _ _),(H.fresh b x J).2⟩,H.inj,H.obj⟩
    .rw[uV _ _ _ _ (fun j _=>u j)];simpa using re
    .rw[I];intro i r A ho _;obtain⟨b1,b2⟩:=T.blt A ho;have hn:ι r.b=none:=by
      cases J:ι r.b with
      |none=>rfl
      |some x=>have:=(H.fresh _ _ J).1;omega
     refine⟨?_,b2,fun hl=>(by rw[u]at hl;cases hl),fun _=>hn⟩;show s.at r.b=none;cases W:s.at r.b with
     |none=>rfl
     |some ob=>
      obtain⟨x,_,J,_⟩:=H.obj _ _ W;rw[hn]at J;cases J
   .cases G
  .cases hd
 .cases hd
end draw3
end Go.Run
namespace Go.Run
open Go Go.Eng
section steps
variable {P:Program}{p:Pr}{ι:Io}{s s':S}{h:Heap}{m:Fm}{e e':E}{er:Env}{self:ae}{ro:Option Nat}{d:List Nat}{dr:List Deferred}{l:Option Nat}{o:Out}
section
variable {i:Nat}
theorem CP.trans {ι1:Io}{s1:S}{h1:Heap}(H:Sim P ι s h)(q1:Ste ι s h ι1 s1 h1){x:Exit}{er':Env}{dr':List Deferred}{h2:Heap}(c:CP P ι1 s1 h1 m o x er' dr' h2):CP P ι s h m o x er' dr' h2:=by
 obtain⟨B,ι',j,u,v,A⟩:=c;exact⟨B,ι',q1.trans H.fresh j,u,v,A⟩
theorem Y7 (re:RE ι m e er)(H:Sim P ι s h)(D:DL ι d dr):WP l P .skip (CP P ι s h m ⟨.normal,e,d,s⟩) er dr h:=
 bN fun w j=>wpIn_skip ⟨⟨rfl,ι,by subst j;exact Ste.refl ..,by subst j;exact H,by simpa using re,D⟩,Eng.Rest.refl w⟩
theorem WU (re:RE ι m e er)(H:Sim P ι s h)(D:DL ι d dr):WP l P (.label i) (CP P ι s h m ⟨.normal,e,d,s⟩) er dr h:=
 bN fun w j=>wpIn_label ⟨⟨rfl,ι,by subst j;exact Ste.refl ..,by subst j;exact H,by simpa using re,D⟩,Eng.Rest.refl w⟩
theorem zAu (re:RE ι m e er)(H:Sim P ι s h)(D:DL ι d dr):WP l P .ret (CP P ι s h m ⟨.ret,e,d,s⟩) er dr h:=
 bN fun w j=>wpIn_ret ⟨⟨rfl,ι,by subst j;exact Ste.refl ..,by subst j;exact H,by simpa using re,D⟩,Eng.Rest.refl w⟩
theorem ZL (re:RE ι m e er)(H:Sim P ι s h)(D:DL ι d dr):WP l P (.exit i) (CP P ι s h m ⟨.exit i,e,d,s⟩) er dr h:=
 bN fun w j=>wpIn_exit ⟨⟨rfl,ι,by subst j;exact Ste.refl ..,by subst j;exact H,by simpa using re,D⟩,Eng.Rest.refl w⟩
theorem Y2 (re:RE ι m e er)(H:Sim P ι s h)(D:DL ι d dr):WP l P (.goto i) (CP P ι s h m ⟨.goto i,e,d,s⟩) er dr h:=
 bN fun w j=>wpIn_goto ⟨⟨rfl,ι,by subst j;exact Ste.refl ..,by subst j;exact H,by simpa using re,D⟩,Eng.Rest.refl w⟩
theorem PH (sd:Snd P self){a b:Code}(hd:Da self m ro a b e d s= .ok o)(re:RE ι m e er)(H:Sim P ι s h)(D:DL ι d dr)(R:RO ι ro l):WP l P (.seq a b) (CP P ι s h m o) er dr h:=by
 unfold Da at hd;split at hd
 .rename_i O N s1 Q;have u:=sd _ _ _ _ _ _ _ Q ι er dr h l re H D R;refine bN fun w C=>wpIn_seq (wpIn_mono (dH u w C) ?_)
  rintro x I G ⟨⟨V,ι1,q1,q2,q3,q4⟩,A⟩;obtain rfl:x= .normal:=V;have U:=sd _ _ _ _ _ _ _ hd ι1 _ _ _ l q3 q2 q4 (R.mono q1.sub);have:=dH U G rfl;rw[dA]at this;refine wpIn_mono this ?_;rintro x J W ⟨c,B⟩;exact⟨c.trans H q1,A.trans B⟩
 .rename_i v;have u:=sd _ _ _ _ _ _ _ hd ι er dr h l re H D R;refine bN fun w C=>wpIn_seq (wpIn_mono (dH u w C) ?_)
  rintro x I G ⟨c,A⟩;have j:o.x≠.normal:=by
   intro j;obtain⟨Z,O,N,s1⟩:=o;have j:Z= .normal:=j;subst j;exact v _ _ _ hd
  cases x with
  |normal=>
   have:=c.1;cases ho:o.x<;>rw[ho]at this j<;>first|exact absurd rfl j|cases this
  |_=>exact⟨c,A⟩
theorem Xw (sd:Snd P self){x:Operand}{a b:Code}(hd:Kg self m ro x a b e d s= .ok o)(re:RE ι m e er)(H:Sim P ι s h)(D:DL ι d dr)(R:RO ι ro l):WP l P (.cond x a b) (CP P ι s h m o) er dr h:=by
 unfold Kg at hd;split at hd
 .rename_i j;have j:=ai re j;simp only[VR]at j;exact bN fun w u=>wpIn_cond_true (by rw[dY];exact j) (dH (sd _ _ _ _ _ _ _ hd ι er dr h l re H D R) w u)
 .rename_i j;have j:=ai re j;simp only[VR]at j;exact bN fun w u=>wpIn_cond_false (by rw[dY];exact j) (dH (sd _ _ _ _ _ _ _ hd ι er dr h l re H D R) w u)
 .cases hd
theorem WN (sd:Snd P self){b:Code}(hd:FU self m ro i b e d s= .ok o)(re:RE ι m e er)(H:Sim P ι s h)(D:DL ι d dr)(R:RO ι ro l):WP l P (.block i b) (CP P ι s h m o) er dr h:=by
 unfold FU at hd;split at hd
 .rename_i j N J s1 O;have A:=sd _ _ _ _ _ _ _ O ι er dr h l re H D R;refine bN fun w C=>wpIn_block (wpIn_mono (dH A w C) ?_)
  rintro x I Q ⟨⟨G,c⟩,v⟩;obtain rfl:x= .exit j:=G;simp only[Exit.inBlock];split at hd
  .rename_i u;cases hd;rw[if_pos (aC u)];exact⟨⟨rfl,c⟩,v⟩
  .rename_i u;cases hd;rw[if_neg]
   .exact⟨⟨rfl,c⟩,v⟩
   .rintro rfl;have:aX j j=true:=lG j;rw[this]at u;cases u
 .rename_i B;have A:=sd _ _ _ _ _ _ _ hd ι er dr h l re H D R;refine bN fun w C=>wpIn_block (wpIn_mono (dH A w C) ?_)
  rintro x I Q ⟨c,v⟩;cases x with
  |exit j=>
   exfalso;have G:=c.1;obtain⟨U,N,J,s1⟩:=o;cases U with
   |exit j'=>exact B _ _ _ _ hd
   |_=>cases G
  |_=>exact⟨c,v⟩
theorem vV (sd:Snd P self){b:Code}:∀(n:Nat) {ι:Io} {s:S} {h:Heap} {e:E} {er:Env} {d:List Nat} {dr:List Deferred},TA self m ro b n e d s= .ok o->RE ι m e er->Sim P ι s h->DL ι d dr->RO ι ro l->∀w:World,w.heap=h->
 ol (fen l) 0 P b (fun x a w'=>CP P ι s h m o x a.tmps.toList a.defers w'.heap/\Eng.Rest w w') n ⟨er.toArray,dr⟩ w
 |0,ι,s,h,e,er,d,dr,u,re,H,D,R,w,hw=>by
  have u:(Res.bad "rounds" :Res Out)= .ok o:=u;cases u
 |n+1,ι,s,h,e,er,d,dr,u,re,H,D,R,w,hw=>by
  have u:(match self m ro b e d s with| .ok ⟨.normal,e,d,s⟩=>TA self m ro b n e d s|r=>r)= .ok o:=u;rw[roundsIn_succ];split at u
  .rename_i O N s1 Q;refine wpIn_mono (dH (sd _ _ _ _ _ _ _ Q ι er dr h l re H D R) w hw) ?_;rintro x J w' ⟨⟨G,V,q1,q2,q3,q4⟩,C⟩;obtain rfl:x= .normal:=G;have:=vV sd n u q3 q2 q4 (R.mono q1.sub) w' rfl;rw[dA]at this;have I:∀(k:Nat) (a:Act) (j:World),ol (fen l) 0 P b (fun x a j=>CP P V s1 w'.heap m o x a.tmps.toList a.defers j.heap/\Eng.Rest w' j) k a j->ol (fen l) 0 P b (fun x a j=>CP P ι s h m o x a.tmps.toList a.defers j.heap/\Eng.Rest w j) k a j:=by
    intro k;induction k with
    |zero=>intro a j v;exact v.elim
    |succ k ih=>
     intro a j v;rw[roundsIn_succ]at v ⊢;refine wpIn_mono v ?_;intro x a W B;cases x with
     |normal=>exact ih _ _ B
     |_=>exact⟨B.1.trans H q1,C.trans B.2⟩
   exact I n J w' this
  .rename_i A;refine wpIn_mono (dH (sd _ _ _ _ _ _ _ u ι er dr h l re H D R) w hw) ?_;rintro x J w' ⟨c,C⟩;cases x with
   |normal=>
    exfalso;have G:=c.1;obtain⟨U,O,N,s1⟩:=o;cases U with
    |normal=>exact A _ _ _ u
    |_=>cases G
   |_=>exact⟨c,C⟩
theorem wS (sd:Snd P self){b:Code}(hd:uP self m ro b e d s= .ok o)(re:RE ι m e er)(H:Sim P ι s h)(D:DL ι d dr)(R:RO ι ro l):WP l P (.loop b) (CP P ι s h m o) er dr h:=
 bN fun w j=>wpIn_loop_rounds 1000000 (vV sd 1000000 hd re H D R w j)
end
section scope
variable {b:Frame}{a:Act}{k:List Item}{cs:List Frame}{w:World}
theorem iw {c:Code}:Go.step P (lone (b.atR a (.code (.scope c)::k)) cs w)= .next (lone (b.atR a (.code c:: .inScope c::k)) cs w):=
 step_lone_go (by simp[stepG,stepG.exec,Frame.atR])
theorem Cx {c:Code}:Go.step P (lone (b.atR a (.inScope c::k)) cs w)= .next (lone (b.atR a k) cs w):=
 step_lone_go (by simp[stepG,stepG.exec,Frame.atR])
end scope
theorem MX {F:Fence}{n:Nat}{Q:Exit->Act->World->Prop}{a:Act}{w:World}{c:Code}(hc:c.wpIn F n P (fun x a w=>(∀i,x≠.goto i)/\Q x a w) a w):(Code.scope c).wpIn F n P Q a w:=by
 intro b k cs J C H;have u:(lone (b.atR a (.code (.scope c)::k)) cs w).fenced P F:=fenced_calm C H rfl;obtain⟨e,A,B,v,j⟩:=hc b (.inScope c::k) cs J C H;cases e with
 |normal=>exact⟨.normal,A,B,v.2,.head u iw (StepsIn.trans j (.one (fenced_calm C H rfl) Cx))⟩
 |exit id=>
  have N:exitTo id (.inScope c::k)=exitTo id k:=by simp[exitTo]
  exact⟨.exit id,A,B,v.2,fun O G=> .head u iw (j.1 O (by rw[N];exact G)),
   fun I G=>let⟨k₁,h1,h2⟩:=j.2 I (by rw[N];exact G);⟨k₁,h1,.head u iw h2⟩⟩
 |goto l=>exact absurd rfl (v.1 l)
 |ret=>exact⟨_,A,B,v.2,.of_steps (.one u iw) j⟩
 |panic ch=>exact⟨_,A,B,v.2,.of_steps (.one u iw) j⟩
 |outgrown=>exact⟨_,A,B,v.2,.of_steps (.one u iw) j⟩
theorem Vs (sd:Snd P self){b:Code}(hd:El self m ro b e d s= .ok o)(re:RE ι m e er)(H:Sim P ι s h)(D:DL ι d dr)(R:RO ι ro l):WP l P (.scope b) (CP P ι s h m o) er dr h:=by
 unfold El at hd;split at hd
 .cases hd
 .rename_i u;refine bN fun w A=>MX (wpIn_mono (dH (sd _ _ _ _ _ _ _ hd ι er dr h l re H D R) w A) ?_)
  rintro x G N ⟨c,v⟩;refine⟨?_,c,v⟩;rintro i rfl;have B:=c.1;obtain⟨C,J,I,s1⟩:=o;cases C with
  |goto j=>exact u _ _ _ _ hd
  |_=>cases B
end steps
end Go.Run
namespace Go.Run
open Go Go.Eng
section calls
variable {P:Program}{p:Pr}{ι:Io}{s s':S}{h:Heap}{m:Fm}{e e':E}{er:Env}{self:ae}{ro:Option Nat}{d:List Nat}{dr:List Deferred}{l:Option Nat}{o:Out}{t:T}
section
variable {g:FuncId}{us:List Value}{vs:List T}
theorem kJ {f:FuncId}{fn:Func}{c:Code}{args:Array Value}{h:Heap}{K:Value->Heap->Prop}(hf:P.funcs[f]? =some fn)(hb:fn.body=some c)(hbod:qA P f=true)
 (H:WP none P c (lq P fn.results.toList K) (args.toList++aZ (fn.ntmps-args.size) undef) [] h):ak P f args h K:=by
 unfold ak;refine⟨hbod,fun w C=> ?_⟩;unfold gP;refine callsIn_wide.1 (callsIn_of_wp_marks (F:=Fence.wide) (n:=0) hf hb trivial ?_ rfl);have u:=dH H w C;have B:(args.toList++aZ (fn.ntmps-args.size) undef).toArray=args++xG (fn.ntmps-args.size) undef:=by
  apply bz.1;simp
 rw[B]at u;refine wpIn_mono u ?_;rintro x a A ⟨j,v⟩;cases x with
 |normal=>
  unfold lq at j;have:=jF (P:=P) (fn:=fn) a.defers A v j;rw[lC]at this;exact this
 |ret=>
  unfold lq at j;have:=jF (P:=P) (fn:=fn) a.defers A v j;rw[lC]at this;exact this
 |_=>unfold lq at j;exact j.elim
theorem KO {n:Nat}(hn:n<=1024):n<=2^gV n:=by
 unfold gV;rw[aJ,aJ,aJ];split
 .rename_i h;exact aH.1 h
 .split
  .rename_i h;exact aH.1 h
  .split
   .rename_i h;exact aH.1 h
   .exact hn
theorem JK {β:Type}:∀(vs:List T) (i:Nat) (e:E) (k:E->β),pg m vs i e k=k (pg m vs i e id)
 |[],i,e,k=>rfl
 |v::vs,i,e,k=>by
  simp only[pg,En.aV];rw[JK vs (i+1) _ k]
theorem Je:∀(vs:List T) (us:List Value) (i:Nat) (e:E) (er:Env),RE ι m e er->VL ι vs us->i+vs.length<=m.n->RE ι m (pg m vs i e id) (er.take i++us++er.drop (i+us.length))
 |[],us,i,e,er,re,hv,_=>by
  simp only[VL]at hv;subst hv;simpa[pg]using re
 |v::vs,us,i,e,er,re,hv,hl=>by
  obtain⟨u,us,rfl,A,B⟩:=hv.cons';simp only[ed]at hl;simp only[pg,En.aV];have C:i<er.length:=by rw[re.len];omega
  have:=Je vs us (i+1) _ _ (re.set (q:=i) (by omega) A) B (by omega);have I:(er.set i u).take (i+1)++us++(er.set i u).drop (i+1+us.length)=er.take i++(u::us)++er.drop (i+(u::us).length):=by
   have G:(er.set i u).take (i+1)=er.take i++[u]:=by
    apply List.ext_getElem?;intro j;rw[eD,List.getElem?_set,List.getElem?_append,List.length_take,tT (Nat.le_of_lt C),eD];by_cases A:j<i
    .rw[if_pos (by omega),if_neg (by omega),if_pos A,if_pos A]
    .by_cases B:j=i
     .subst B;rw[if_pos (by omega),if_pos rfl,if_pos C,if_neg A,Nat.sub_self];rfl
     .rw[if_neg (by omega),if_neg A,List.getElem?_eq_none (by simp;omega)]
   have H:(er.set i u).drop (i+1+us.length)=er.drop (i+(u::us).length):=by
    rw[List.drop_set_of_lt (by omega),ed];congr 1;omega
   rw[G,H];simp
  rw[I]at this;exact this
theorem pK {nt:Nat}(hv:VL ι vs us)(hl:vs.length<=nt)(hn:nt<=1024):RE ι ⟨gV nt,nt⟩ (pg ⟨gV nt,nt⟩ vs 0 (.leaf fB) id) (us++aZ (nt-us.length) undef):=by
 have j:RE ι ⟨gV nt,nt⟩ (.leaf fB) (aZ nt undef):=by
  refine⟨by simp,KO hn,fun i u=> ?_⟩;rw[En.bU];have:(aZ nt undef).getD i undef=undef:=by simp[List.getD,List.getElem?_replicate];split<;>rfl
  rw[this];exact uI
 have:=Je vs us 0 _ _ j hv (by simpa using hl);simpa using this
theorem yj:∀{d:List Nat} {dr:List Deferred} {s s1:S} {h:Heap},Aj d s=some s1->DL ι d dr->Sim P ι s h->AV h dr/\Ste ι s h ι s1 (lK h dr)/\Sim P ι s1 (lK h dr)
 |[],dr,s,s1,h,hc,D,H=>by
  have D:dr=[]:=D;subst D;simp only[Aj,Option.some.injEq]at hc;subst hc;exact⟨trivial,Ste.refl ..,H⟩
 |b::ds,dr,s,s1,h,hc,D,H=>by
  obtain⟨y,r,C,rfl,D⟩:=D;simp only[Aj]at hc;split at hc
  .rename_i B;obtain⟨Q,ob,u,N,j⟩:=H.obj b _ B;rw[C]at u;cases u;have j:ob= .deferred (some []):=j;subst j;obtain⟨ι2,q1,q2,_⟩:=gW (t:=fB) (v:=undef) H B C (o:= .uf false) (ob:= .deferred none) rfl uI;have:ι=ι2:=by
    symm;funext c;cases hc2:ι2 c with
    |none=>
     cases hc3:ι c with
     |none=>rfl
     |some x=>have:=q1.sub c x hc3;rw[hc2]at this;cases this
    |some x=>
     rcases q1.grow c x hc2 with A|⟨A,_⟩
     .exact A.symm
     .have:=(q2.fresh c x hc2).1;have O:(gI s b (.uf false)).nx=s.nx:=by rw[kR,fq]
      omega
   subst this;obtain⟨G,I,J⟩:=yj hc D q2;exact⟨⟨y.r,rfl,N,G⟩,q1.trans H.fresh I,J⟩
  .cases hc
theorem CS {acc:List Value}{K:Value->Heap->Prop}:jl P [] er acc K h=K (sI acc) h:=by
 match acc with
 |[]=>rw[JW];rfl
 |[v]=>rw[IM];rfl
 |v::u::vs=>rw[Jw];rfl
theorem wJ (ok:Ok P p){K:Value->Heap->Prop}(H:Sim P ι s h)(re:RE ι m e er):∀{rs:List ResultVar} {vs:List T} {acc:List Value},Kl p m rs e s=some vs->(∀us,VL ι vs us->K (sI (acc++us)) h)->jl P rs er acc K h
 |[],vs,acc,hr,hK=>by
  simp only[Kl,Option.some.injEq]at hr;subst hr;rw[CS];have:=hK [] rfl;rw[Fx]at this;exact this
 | .tmp q::rs,vs,acc,hr,hK=>by
   simp only[Kl]at hr;split at hr
   .rename_i r j;cases hr;rw[uq];refine wJ ok H re j fun us A=> ?_
    have:=hK (er.getD q undef::us) (by simp only[VL];exact⟨_,_,rfl,iY re q,A⟩);simpa using this
   .cases hr
 | .cell a q::rs,vs,acc,hr,hK=>by
   simp only[Kl]at hr;split at hr
   .rename_i v r j C;cases hr;rw[rU];refine Gj ok H (iY re a) j fun u A=> ?_
    rw[zN];refine wJ ok H re C fun us B=> ?_
    have:=hK (u::us) (by simp only[VL];exact⟨_,_,rfl,A,B⟩);simpa using this
   .cases hr
theorem Vu (hv:VL ι vs us):VR ι (Nq vs) (sI us):=by
 match vs,hv with
 |[],hv=>
  simp only[VL]at hv;subst hv;simp only[Nq,sI,VR];exact⟨_,rfl,by simp[VL]⟩
 |[v],hv=>
  obtain⟨u,rfl,A⟩:=hv.one;exact A
 |v::w::vs,hv=>
  have j:=hv;obtain⟨u,us,rfl,A,B⟩:=hv.cons';obtain⟨H,us,rfl,C,G⟩:=B.cons';simp only[Nq,sI,VR];exact⟨_,rfl,by simpa using j⟩
theorem rR (ok:Ok P p){rs:List ResultVar}{ι0:Io}{s0:S}{h0:Heap}(H0:Sim P ι0 s0 h0)(q:Ste ι0 s0 h0 ι s h)(H:Sim P ι s h)(re:RE ι m e er)(D:DL ι d dr)(hd:EN p m rs e d s= .ok (t,s')):
 oO P rs er dr h (Post P ι0 s0 h0 t s'):=by
 unfold EN at hd;split at hd
 .rename_i s1 A;split at hd
  .rename_i vs B;cases hd;obtain⟨u,v,j⟩:=yj A D H;unfold oO;refine⟨u,wJ ok j re B fun us C=> ?_⟩;rw[tq];exact⟨ι,q.trans H0.fresh v,j,Vu C⟩
  .cases hd
 .cases hd
theorem vY (ok:Ok P p)(sd:Snd P self)(hd:qQ p self g vs s= .ok (t,s'))(hv:VL ι vs us)(H:Sim P ι s h):ak P g us.toArray h (Post P ι s h t s'):=by
 unfold qQ at hd;split at hd
 .rename_i fi C;have j:=ok.fn g fi C;unfold NA at j;split at j
  .rename_i Z W;split at j
   .rename_i c V;split at j
    .rename_i u;cases j;rw[aJ]at hd;split at hd
     .rename_i B;simp only[aF]at B;have R:=aH.1 B.1;have U:=aH.1 B.2;have N:=pK hv R U;rw[JK]at hd;refine kJ W V u ?_;have I:us.toArray.size=us.length:=by simp
      rw[I,List.toList_toArray];split at hd
      .rename_i Q O s1 G;refine dD ?_ (sd _ _ _ _ _ _ _ G ι _ [] h none N H rfl rfl);rintro x A v h' ⟨J,ι',q1,q2,q3,q4⟩;obtain rfl:x= .normal:=J;unfold lq;exact rR ok H q1 q2 q3 q4 hd
      .rename_i Q O s1 G;refine dD ?_ (sd _ _ _ _ _ _ _ G ι _ [] h none N H rfl rfl);rintro x A v h' ⟨J,ι',q1,q2,q3,q4⟩;obtain rfl:x= .ret:=J;unfold lq;exact rR ok H q1 q2 q3 q4 hd
      .cases hd
      .cases hd
     .cases hd
    .cases j
   .cases j
  .cases j
 .cases hd
structure fE (P:Program)(p:Pr):Prop where
 lib:∀g vs s t s',p.lib g≠0->zAV s (p.lib g) vs=some (t,s')->∀ι us h,VL ι vs us->Sim P ι s h->ak P g us.toArray h (Post P ι s h t s')
 mem:∀g f vs s t s',p.mem g=some f->f vs s=some (t,s')->∀ι us h,VL ι vs us->Sim P ι s h->ak P g us.toArray h (Post P ι s h t s')
theorem EQ (ok:Ok P p)(lb:fE P p)(sd:Snd P self)(hd:zb p self g vs s= .ok (t,s'))(hv:VL ι vs us)(H:Sim P ι s h):ak P g us.toArray h (Post P ι s h t s'):=by
 unfold zb at hd;split at hd
 .exact vY ok sd hd hv H
 .rename_i c j;split at hd
  .rename_i r u;cases hd;exact lb.lib g vs s _ _ j u ι us h hv H
  .cases hd
theorem EO (ok:Ok P p)(lb:fE P p)(sd:Snd P self)(hd:zQ p self g vs s= .ok (t,s'))(hv:VL ι vs us)(H:Sim P ι s h):ak P g us.toArray h (Post P ι s h t s'):=by
 unfold zQ at hd;split at hd
 .exact EQ ok lb sd hd hv H
 .rename_i f j;split at hd
  .rename_i t u;cases hd;exact lb.mem g f vs s _ _ j u ι us h hv H
  .exact EQ ok lb sd hd hv H
theorem pJ {g:FuncId}{first caps:Array Value}{vs:List Value}{K:Value->Heap->Prop}(hc:ak P g (first++vs.toArray++caps) h K):JA P (.func (.func g) first caps) vs h K:=by
 intro er f xs j ty u v;refine aM ?_;rw[Gg,u,BF];have:xs.map (ev er)=vs.toArray:=by apply bz.1;simpa using v
 rw[this];exact hc
end
end calls
end Go.Run
namespace Go.Run
open Go Go.Eng
section yields
variable {P:Program}{p:Pr}{ι:Io}{s s':S}{h:Heap}{m:Fm}{e e':E}{er:Env}{self:ae}{ro:Option Nat}{d:List Nat}{dr:List Deferred}{l:Option Nat}{o:Out}{t:T}
section
variable {r:Nat}{rec:Loop}{y:Inf}
theorem Ni (H:Sim P ι s h){b:Nat}{r:LO}(hl:oJ s b=some r)(hy:ι b=some y):
 ∃(rec:Loop) (z:Inf),h[y.r]? =some (.loop rec)/\rec.state=r.st/\rec.pending=r.pend/\rec.params=r.pa.toArray/\rec.assign=r.asg/\rec.body=r.bd/\ι r.df=some z/\rec.defers=z.r/\RE ι r.m r.tm rec.tmps.toList:=by
 unfold oJ at hl;split at hl
 .rename_i st pend G n tm pa asg bd df C;cases hl;obtain⟨O,J,j,u,v⟩:=H.obj b _ C;rw[hy]at j;cases j;obtain⟨I,N,z,A,rfl,B⟩:=v;exact⟨_,z,u,rfl,rfl,rfl,rfl,rfl,A,rfl,B⟩
 .cases hl
theorem vD (H:Sim P ι s h){b:Nat}{r:LO}(hl:oJ s b=some r)(hy:ι b=some y)(st:LoopState)(pend:Option Code):
 ∃rec:Loop,h[y.r]? =some (.loop rec)/\rec.state=r.st/\rec.pending=r.pend/\Sim P ι (jb s b {r with st:=st,pend:=pend}) (h.setIfInBounds y.r (.loop {rec with state:=st,pending:=pend}))/\
  Ste ι s h ι (jb s b {r with st:=st,pend:=pend}) (h.setIfInBounds y.r (.loop {rec with state:=st,pending:=pend})):=by
 unfold oJ at hl;split at hl
 .rename_i W v O n Z I j A N G;cases hl;obtain⟨y',ob,B,C,Q⟩:=H.obj b _ G;rw[hy]at B;cases B;obtain⟨fn,J,z,R,rfl,U⟩:=Q;refine⟨_,C,rfl,rfl,?_⟩;obtain⟨u,V⟩:=Fw (bA C) (.loop {state:=st,pending:=pend,fn:=fn,tmps:=J,params:=I.toArray,assign:=j,body:=A,defers:=z.r});obtain⟨q1,q2⟩:=kg H G hy (o:= .loop st pend O n Z I j A N) ⟨fn,J,z,R,rfl,U⟩ u V (low:=min s.low b) (Nat.min_le_left _ _) (.inl (Nat.min_le_right _ _)) (by simp[VO.am]);rw[<-kR]at q1 q2;exact⟨q1,q2⟩
 .cases hl
theorem Ea {β:Type}:∀(qs:List Tmp) (vs:List T) (e:E) (k:E->β),qC m qs vs e k=k (qC m qs vs e id)
 |[],vs,e,k=>by cases vs<;>rfl
 |q::qs,[],e,k=>rfl
 |q::qs,v::vs,e,k=>by
  simp only[qC,En.aV];rw[Ea qs vs _ k]
theorem ET:∀(qs:List Tmp) (vs:List T) (us:List Value) (e:E) (er:Env),RE ι m e er->VL ι vs us->qs.length=vs.length->(∀q∈qs,q<m.n)->RE ι m (qC m qs vs e id) ((qs.zip us).foldl (fun er (x:Tmp×Value)=>er.set x.1 x.2) er)
 |[],vs,us,e,er,re,hv,hl,hq=>by
  cases vs with
  |nil=>simpa[qC]using re
  |cons v vs=>simp at hl
 |q::qs,vs,us,e,er,re,hv,hl,hq=>by
  cases vs with
  |nil=>simp at hl
  |cons v vs=>
   obtain⟨u,us,rfl,A,B⟩:=hv.cons';simp only[qC,En.aV,List.zip_cons_cons,FN];exact ET qs vs us _ _ (re.set (hq q (by simp)) A) B (by simpa using hl) fun C j=>hq C (by simp[j])
theorem ED:∀(l:List (Tmp×Value)) (a:Array Value),(l.foldl (fun tmps (x:Tmp×Value)=>tmps.setIfInBounds x.1 x.2) a).toList=l.foldl (fun er (x:Tmp×Value)=>er.set x.1 x.2) a.toList
 |[],a=>rfl
 |x::l,a=>by
  simp only[FN];rw[ED l];simp
theorem run_getLoop {w:World}(hr:w.heap[r]? =some (.loop rec)):(SL r).run P w= .ok rec w:=by
 simp[SL,getObj,Lj,hr,cZ]
theorem qU {w:World}(hr:w.heap[r]? =some (.loop rec))(o:Obj):(setObj r o).run P w= .ok () {w with heap:=w.heap.setIfInBounds r o}:=by
 simp[setObj,Lj,hr]
theorem run_yield {w:World}(hr:w.heap[r]? =some (.loop rec)){args:Array Value}(hs:args.size=rec.params.size):
 (Instr.yield r args).run P w= .ok (.round r rec.fn ((rec.params.zip args).foldl (fun tmps (x:Tmp×Value)=>tmps.setIfInBounds x.1 x.2) rec.tmps) rec.assign rec.body) w:=by
 simp[Instr.yield,run_getLoop hr,cZ,hs]
theorem Q6 {w:World}(hr:w.heap[r]? =some (.loop rec))(hs:rec.state= .ready):
 (Oz r).run P w= .ok () {w with heap:=w.heap.setIfInBounds r (.loop {rec with state:= .busy})}:=by
 simp[Oz,run_getLoop hr,qU hr,cZ,hs]
theorem run_end {w:World}(hr:w.heap[r]? =some (.loop rec))(j:Option Code):
 (II r j).run P w= .ok (.bool j.isNone) {w with heap:=w.heap.setIfInBounds r (.loop {rec with state:=if j.isNone then .ready else .done,pending:=j})}:=by
 simp[II,run_getLoop hr,qU hr,cZ]
theorem run_endLoop {w:World}(hr:w.heap[r]? =some (.loop rec))(hs:rec.state≠.busy):
 (SH r).run P w= .ok rec.pending {w with heap:=w.heap.setIfInBounds r (.loop {rec with state:= .exhausted})}:=by
 have:(rec.state==LoopState.busy)=false:=by cases hst:rec.state<;>first|rfl|exact absurd hst hs
 simp[SH,run_getLoop hr,qU hr,cZ,this];intro j;exact absurd j hs
theorem Gz (sd:Snd P self){b:Nat}{args:List T}{us:List Value}(hd:wM self b args s= .ok (t,s'))(hy:ι b=some y)(hv:VL ι args us)(H:Sim P ι s h):JA P (.func (.yield y.r) #[] #[]) us h (Post P ι s h t s'):=by
 unfold wM at hd;split at hd
 .rename_i r hl;obtain⟨rec,z,g1,g2,g3,g4,g5,g6,g7,g8,g9⟩:=Ni H hl hy;rw[aJ]at hd;split at hd
  .rename_i hc;simp only[aF]at hc;have I:=aC hc.1;have U:∀q∈r.pa,q<r.m.n:=fun q hq=>aH.1 (bJ.1 hc.2 q hq)
   rw[Ea]at hd;have re0:=ET r.pa args us r.tm _ g9 hv I U;split at hd
   .rename_i e1 d1 s1 h1;split at hd
    .rename_i r1 hl1;split at hd
     .rename_i Z;split at hd
      .rename_i x e2 d2 s2 h2;split at hd
       .rename_i r2 V;intro er f xs ats ty hf hx;unfold aI;refine And.intro rfl fun w hw=> ?_
        subst hw;have N:xs.map (ev er)=us.toArray:=by apply bz.1;simpa using hx
        have W:(execOp (ev er) {dst:=none,op:= .call ⟨.value f,xs,ats⟩,type:=ty,pos:= "",after:= #[],guard:=none}).run P w= .ok (.round y.r rec.fn ((rec.params.zip us.toArray).foldl (fun C (x:Tmp×Value)=>C.setIfInBounds x.1 x.2) rec.tmps) rec.assign rec.body) w:=by
         have:=run_yield (P:=P) g1 (args:=us.toArray) (by rw[g4];simp[hv.length,I]);simp only[execOp,resolve,hf,Deferred.ofValue,invoke,aY,bE,aN,N,Array.empty_append,this]
        rw[W];refine⟨Eng.Rest.refl w,roundIn_of_wpIn trivial ?_⟩;have ha:=dH (sd _ _ _ _ _ _ _ h1 ι _ [] w.heap (some y.r) re0 H rfl ⟨y,hy,rfl⟩) w rfl;have htm:((r.pa.zip us).foldl (fun er (x:Tmp×Value)=>er.set x.1 x.2) rec.tmps.toList).toArray=((rec.params.zip us.toArray).foldl (fun C (x:Tmp×Value)=>C.setIfInBounds x.1 x.2) rec.tmps):=by
         apply bz.1;rw[<-Array.foldl_toList,ED,g4];simp
        rw[htm,<-g5]at ha;refine wpIn_mono ha ?_;rintro x1 a1 w1 ⟨⟨hx1,ι1,q1,q2,q3,q4⟩,hr1⟩;obtain rfl:x1= .normal:=hx1;have R:=q1.sub b y hy;obtain⟨B,b1,b2,b3,b4,b5⟩:=vD q2 hl1 R .busy r1.pend;have hb:=Q6 (P:=P) b1 (by rw[b2];exact Z);have Q:({B with state:= .busy}:Loop)={B with state:= .busy,pending:=r1.pend}:=by rw[<-b3]
        rw[Q]at hb;refine⟨_,hb,?_⟩;have hbd:rec.body=r.bd:=g6;have hr1bd:r1.bd=r1.bd:=rfl;have u:=dH (sd _ _ _ _ _ _ _ h2 ι1 _ _ _ (some y.r) q3 b4 q4 ⟨y,R,rfl⟩) {w1 with heap:=w1.heap.setIfInBounds y.r (.loop {B with state:= .busy,pending:=r1.pend})} rfl;rw[dA]at u;rw[hbd];refine wpIn_mono u ?_;rintro x2 a2 w2 ⟨⟨hx2,ι2,c1,c2,c3,c4⟩,O⟩;obtain rfl:x2=exR x:=hx2;have hy2:=c1.sub b y R;have J:Ste ι s w.heap ι2 s2 w2.heap:=(q1.trans H.fresh b5).trans H.fresh c1;have A:Eng.Rest w w2:=hr1.trans ⟨O.os,O.tape,O.output⟩;have G:∀(j:Option Code),(match Ml x with
         |none=> .ok (.bool true,jb s2 b {r2 with st:= .ready,pend:=none})
         |some j=> .ok (.bool false,jb s2 b {r2 with st:= .done,pend:=some j}):Res (T×S))= .ok (t,s')->Ml x=j->∃v w',(II y.r j).run P w2= .ok v w'/\∃v',Ending.returned v=Ending.returned v'/\Post P ι s w.heap t s' v' w'.heap/\Eng.Rest w w':=by
         intro j hd hj;cases j with
         |none=>
          rw[hj]at hd;simp only[Res.ok.injEq,Prod.mk.injEq]at hd;obtain⟨rfl,rfl⟩:=hd;obtain⟨rec2,k1,k2,k3,k4,k5⟩:=vD c2 V hy2 .ready none;have:=run_end (P:=P) k1 none;refine⟨_,_,this,_,rfl,⟨ι2,J.trans H.fresh k5,k4,by simp only[VR];rfl⟩,A.trans ⟨rfl,rfl,rfl⟩⟩
         |some j=>
          rw[hj]at hd;simp only[Res.ok.injEq,Prod.mk.injEq]at hd;obtain⟨rfl,rfl⟩:=hd;obtain⟨rec2,k1,k2,k3,k4,k5⟩:=vD c2 V hy2 .done (some j);have:=run_end (P:=P) k1 (some j);refine⟨_,_,this,_,rfl,⟨ι2,J.trans H.fresh k5,k4,by simp only[VR];rfl⟩,A.trans ⟨rfl,rfl,rfl⟩⟩
        cases x with
        |normal=>exact G none hd rfl
        |ret=>exact G (some .ret) hd rfl
        |exit i=>exact G (some (.exit i)) hd rfl
        |goto i=>exact G (some (.goto i)) hd rfl
       .cases hd
      .cases hd
     .cases hd
    .cases hd
   .cases hd
   .cases hd
  .cases hd
 .cases hd
theorem Fj (H:Sim P ι s h)(D:DL ι d dr)(R:RO ι ro l){df:Nat}{d1:List Nat}{s1:S}(hd:around ro d s=some (df,d1,s1)):
 ∃ι1 h1 z mark,Ste ι s h ι1 s1 h1/\Sim P ι1 s1 h1/\ι1 df=some z/\DL ι1 d1 (mark++dr)/\∀(fn:FuncId) (tmps:Array Value) (ps:Array Tmp) (a b:Code) (w:World),w.heap=h->
  (Dn fn tmps ps a b l).run P w= .ok (h1.size,mark) {w with heap:=h1.push (.loop {state:= .ready,pending:=none,fn,tmps,params:=ps,assign:=a,body:=b,defers:=z.r})}:=by
 unfold around at hd;split at hd
 .rename_i J;split at hd
  .rename_i r C;cases hd;obtain⟨y,I,rfl⟩:=R;obtain⟨rec,z,v,N,O,Q,U,V,A,B,W⟩:=Ni H C I;refine⟨ι,h,z,[],Ste.refl ..,H,A,D,fun fn tmps ps a b w u=> ?_⟩;subst u;simp[Dn,run_getLoop v,newObj,Lj,cZ,B]
  .cases hd
 .simp only[Option.some.injEq,Prod.mk.injEq]at hd;obtain⟨rfl,rfl,rfl⟩:=hd;have R:l=none:=R;subst R;have G:=H.pI (bi s.nx);have j:=jQ H (o:= .uf true) (ob:= .deferred (some [])) (x:=⟨h.size,0,#[],0,0⟩) rfl rfl;refine⟨_,_,⟨h.size,0,#[],0,0⟩,[{target:= .collected h.size,args:= #[]}],j.2,j.1,Io.dm,⟨_,dr,Io.dm,rfl,D.mono (Io.gU G)⟩,fun fn tmps ps a b w u=> ?_⟩;subst u;simp[Dn,newObj,Lj,cZ];exact⟨rfl,rfl,rfl⟩
theorem Vg (ok:Ok P p)(lb:fE P p)(sd:Snd P self){f:Operand}{ps:Array Tmp}{a b:Code}(hd:Er p self m ro f ps a b e d s= .ok o)(re:RE ι m e er)(H:Sim P ι s h)(D:DL ι d dr)(R:RO ι ro l):WP l P (.rangeFunc f ps a b) (CP P ι s h m o) er dr h:=by
 unfold Er at hd;split at hd
 .rename_i g hg
  replace hg:=ai re hg
  unfold Rl at hd;split at hd
  .rename_i df d1 s1 har;obtain⟨ι1,C,z,I,q1,q2,q3,q4,q5⟩:=Fj H D R har;split at hd
   .rename_i t2 s2 A;unfold XL at A;split at A
    .rename_i gf first caps
     simp only[VR]at hg;obtain⟨c,dd,hgv,hvc,hvd⟩:=hg;have hn1:=q2.pI (bi s1.nx);have u:=Io.gU (x:=⟨C.size,0,#[],0,0⟩) hn1;have re1:RE (ι1.put s1.nx ⟨C.size,0,#[],0,0⟩) m e er:=(re.mono q1.sub).mono u;split at hd
     .rename_i r hl;split at hd
      .cases hd
      .rename_i hst;refine bN fun w hw=>wpIn_rangeFunc fun fn _=> ?_
       subst hw;have O:=q5 fn er.toArray ps a b w rfl;have Q:=jQ q2 (o:= .loop .ready none m.dp m.n e ps.toList a b df) (ob:= .loop {state:= .ready,pending:=none,fn,tmps:=er.toArray,params:=ps,assign:=a,body:=b,defers:=z.r}) (x:=⟨C.size,0,#[],0,0⟩) rfl
        ⟨fn,er.toArray,z,u _ _ q3,by simp,by simpa using re1⟩
       have hvl:VL (ι1.put s1.nx ⟨C.size,0,#[],0,0⟩) (first++[T.func (.yield s1.nx) [] []]++caps) (c.toList++[Value.func (.yield C.size) #[] #[]]++dd.toList):=by
        refine((VL.mono u _ (VL.mono q1.sub _ hvc)).append ?_).append (VL.mono u _ (VL.mono q1.sub _ hvd));simp only[VL];refine⟨_,_,rfl,?_,rfl⟩;simp only[VR];exact⟨trivial,trivial,_,Io.dm,rfl⟩
       have J:=EO ok lb sd A hvl Q.1;unfold ak at J;obtain⟨hbod,J⟩:=J;obtain⟨W1,U⟩:∃W1:World,W1={w with heap:=C.push (.loop {state:= .ready,pending:=none,fn,tmps:=er.toArray,params:=ps,assign:=a,body:=b,defers:=z.r})}:=⟨_,rfl⟩;rw[<-U]at O;have Z:=J W1 (by rw[U]);unfold gP at Z;refine⟨C.size,I,W1,⟨.fn (.func gf) dd,c++ #[.func (.yield C.size) #[] #[]]⟩,W1,gf,c++ #[.func (.yield C.size) #[] #[]]++dd,W1,O,?_,fun _ _=>trivial,?_,fun hh=>by simp[kU]at hh,oV l ?_⟩
       .have hev:ev er (.const (.func (.yield C.size) #[] #[]))= .func (.yield C.size) #[] #[]:=rfl;rw[dY];simp only[resolve,hgv,Deferred.ofValue,bE,List.map_toArray,lT,List.map_nil,hev]
       .show(callFunc gf (c++ #[.func (.yield C.size) #[] #[]]++dd)).run P _=_;exact CE hbod _
       .have V:(c.toList++[Value.func (.yield C.size) #[] #[]]++dd.toList).toArray=c++ #[.func (.yield C.size) #[] #[]]++dd:=by
         apply bz.1;simp
        rw[V]at Z;refine Calls.mono Z ?_;rintro e' w3 ⟨v,rfl,⟨ι3,a1,a2,a3⟩,B⟩;have B:Eng.Rest w w3:=by rw[U]at B;exact⟨B.os,B.tape,B.output⟩
        have hy3:=a1.sub _ _ (Io.dm (ι:=ι1) (b:=s1.nx) (x:=⟨C.size,0,#[],0,0⟩));obtain⟨rec,k1,k2,k3,k4,k5⟩:=vD a2 hl hy3 .exhausted r.pend;have W:rec.state≠.busy:=by rw[k2];exact hst
        have N:=run_endLoop (P:=P) k1 W;have hrec:({rec with state:= .exhausted}:Loop)={rec with state:= .exhausted,pending:=r.pend}:=by rw[<-k3]
        rw[hrec]at N;have G:Ste ι s w.heap ι3 (jb s2 s1.nx {r with st:= .exhausted,pend:=r.pend}) (w3.heap.setIfInBounds C.size (.loop {rec with state:= .exhausted,pending:=r.pend})):=
         ((q1.trans H.fresh Q.2).trans H.fresh a1).trans H.fresh k5
        have re3:RE ι3 m e er:=re1.mono a1.sub;have D3:DL ι3 d1 (I++dr):=(q4.mono u).mono a1.sub;refine⟨_,_,N,?_⟩;rw[k3];split at hd
        .rename_i hp;cases hd;rw[hp];simp only;refine⟨⟨rfl,ι3,?_,?_,by simpa using re3,D3⟩,⟨B.os,B.tape,B.output⟩⟩
         .rw[hp]at G;exact G
         .rw[hp]at k4;exact k4
        .rename_i j hp;rw[hp];simp only;have R3:RO ι3 ro l:=((R.mono q1.sub).mono u).mono a1.sub;rw[hp]at k4 G hd;have:=dH (sd _ _ _ _ _ _ _ hd ι3 er (I++dr) _ l re3 k4 D3 R3) {w3 with heap:=w3.heap.setIfInBounds C.size (.loop {rec with state:= .exhausted,pending:=some j})} rfl;refine wpIn_mono this ?_;rintro x a' w4 ⟨cc,hr4⟩;exact⟨cc.trans H G,B.trans ⟨hr4.os,hr4.tape,hr4.output⟩⟩
     .cases hd
    .cases A
   .cases hd
  .cases hd
 .cases hd
end
end yields
end Go.Run
namespace Go.Run
open Go Go.Eng
section mapl
variable {P:Program}{p:Pr}{ι:Io}{s s':S}{h:Heap}{m:Fm}{e e':E}{er:Env}{self:ae}{ro:Option Nat}{d:List Nat}{dr:List Deferred}{l:Option Nat}{o:Out}{t:T}
noncomputable def headW (l:Option Nat)(P:Program):Code->Value->aj->Env->List Deferred->Heap->Prop
 | .seq a b,v,k,er,dr,h=>headW l P a v (fun x er dr h=>match x with| .normal=>WP l P b k er dr h|x=>k x er dr h) er dr h
 | .region _ ops false,v,k,er,dr,h=>(match ops.toList with
   |o::rest=>∀w w0:World,w.heap=h->Eng.Rest w0 w->wpListIn (fen l) 0 P ops (fun x a w'=>k x a.tmps.toList a.defers w'.heap/\Eng.Rest w0 w') rest ⟨(aU er o.dst v).toArray,dr⟩ w
   |[]=>False)
 |_,_,_,_,_,_=>False
theorem uW:∀(b:Code) {q:Tmp} {k:aj} {er:Env} {dr:List Deferred} {h:Heap},bq b=some q->(∀ty,aI P (.next (.tmp q) false) ty er h (fun v h1=>headW l P b v k er dr h1))->WP l P b k er dr h:=by
 intro b;induction b with
 |seq a b iha _=>
  intro q k er dr h j C;have R:=iha (k:=fun x er dr h=>match x with| .normal=>WP l P b k er dr h|x=>k x er dr h) j C;refine bN fun w G=>wpIn_seq (wpIn_mono (dH R w G) ?_)
  rintro x W J ⟨c,O⟩;cases x with
  |normal=>
   have:=dH c J rfl;rw[dA]at this;exact wpIn_mono this fun x a V q=>⟨q.1,O.trans q.2⟩
  |_=>exact⟨c,O⟩
 |region id ops draw=>
  intro q k er dr h j C;cases draw with
  |true=>simp[bq]at j
  |false=>
   simp only[bq]at j;split at j
   .rename_i o Q N;split at j
    .rename_i t U A;cases j;refine bN fun w G=>wpIn_region_list ?_
     rw[N];unfold wpListIn;have I:fe o (yielded ops er.toArray)=true:=by unfold fe;rw[U]
     simp only[I,if_true];refine iW ?_;rw[A,G];refine bH ?_ (C o.type);intro v h' u J H B;unfold headW at u;rw[N]at u;exact u J w H B
    .cases j
   .cases j
 |_=>intro q k er dr h j;simp[bq]at j
theorem iE (ok:Ok P p)(hcf:iN P (iJ p self))(sd:Snd P self){v:T}{vv:Value}:∀(b:Code) {o:Out} {k:aj},bY p self m ro v b e d s= .ok o->RE ι m e er->VR ι v vv->Sim P ι s h->DL ι d dr->RO ι ro l->(∀x er' dr' h',CP P ι s h m o x er' dr' h'->k x er' dr' h')->headW l P b vv k er dr h:=by
 intro b;induction b with
 |seq a b iha _=>
  intro o k j I G H D R C;unfold bY at j;unfold headW;split at j
  .rename_i J d1 s1 h1;refine iha h1 I G H D R ?_;rintro x er' dr' h' ⟨U,ι1,q1,q2,q3,q4⟩;obtain rfl:x= .normal:=U;refine dD ?_ (sd _ _ _ _ _ _ _ j ι1 _ _ _ l q3 q2 q4 (R.mono q1.sub));intro x Z W h'' c;exact C _ _ _ _ (c.trans H q1)
  .rename_i N;refine iha j I G H D R ?_;intro x er' dr' h' c;cases x with
   |normal=>
    exfalso;have U:=c.1;obtain⟨x',J,d1,s1⟩:=o;cases x' with
    |normal=>exact N _ _ _ j
    |_=>cases U
   |_=>exact C _ _ _ _ c
 |region id ops draw=>
  intro o k j I G H D R C;cases draw with
  |true=>simp[bY]at j
  |false=>
   simp only[bY]at j;unfold headW;cases ho:ops.toList with
   |nil=>rw[ho]at j;simp at j
   |cons o1 rest=>
    rw[ho]at j;simp only at j ⊢;intro w w0 hw hr;split at j
    .rename_i J s1 B;cases j;obtain⟨A,u⟩:=kZ B;have u:xL p m (iJ p self) ops.toList rest (uM m e o1.dst v) s= .ok (J,s1):=by rw[ho];exact u
     have:=qd (l:=l) (d:=dr) (w:=w) (w0:=w0) (Q:=fun x a V=>k x a.tmps.toList a.defers V.heap/\Eng.Rest w0 V) ok hcf rest _ s u (I.put A G) H hw hr fun a V ha O ⟨ι',q1,q2,q3⟩=>
      ⟨C _ _ _ _ ⟨rfl,ι',q1,q2,q3,by rw[ha];exact D.mono q1.sub⟩,O⟩
     simpa using this
    .cases j
 |_=>intro o k j;simp[bY]at j
noncomputable def dW (f:Nat->Bool):List Ent->Nat->List Ent
 |[],_=>[]
 |x::r,j=>if f j then dW f r (j+1)else x::dW f r (j+1)
theorem rP (f:Nat->Bool):∀(es:List Ent) (j:Nat),(dW f es j).Sublist es
 |[],_=> .slnil
 |x::r,j=>by
  unfold dW;split
  .exact(rP f r (j+1)).cons x
  .exact(rP f r (j+1)).cons_cons x
theorem wX (f:Nat->Bool):∀{es:List Ent} {j i:Nat} {x:Ent},(dW f es j)[i]? =some x->∃t,es[t]? =some x/\f (j+t)=false/\((dW f es j).take i).Sublist (es.take t)/\(dW f es j).eraseIdx i=dW (fun u=>f u||u==j+t) es j
 |[],j,i,x,h=>by simp[dW]at h
 |y::r,j,i,x,h=>by
  unfold dW at h ⊢;split at h
  .rename_i v;obtain⟨t,A,B,C,G⟩:=wX f h;refine⟨t+1,by simpa using A,by rw[<-bM];exact B,?_,?_⟩
   .rw[if_pos v,kY];exact C.cons y
   .rw[if_pos v,if_pos (by simp[v]),G];congr 1;funext u;rw[bM]
  .rename_i v;simp only[Bool.not_eq_true]at v;rw[if_neg (by simp[v])];cases i with
   |zero=>
    simp at h;subst h;refine⟨0,rfl,v,by simp,?_⟩;rw[if_pos (by simp)];simp only[List.eraseIdx_zero,List.tail_cons,ko];have I:∀(r:List Ent) (k:Nat),j<k->dW f r k=dW (fun u=>f u||u==j) r k:=by
     intro r;induction r with
     |nil=>intro k _;rfl
     |cons y r ih=>
      intro k J;unfold dW;have:(k==j)=false:=by simp;omega
      simp only[this,yQ];rw[ih (k+1) (by omega)]
    exact I r (j+1) (by omega)
   |succ i=>
    obtain⟨t,A,B,C,G⟩:=wX f (es:=r) (j:=j+1) (i:=i) (by simpa using h);refine⟨t+1,by simpa using A,by rw[<-bM];exact B,?_,?_⟩
    .rw[kY,kY];exact C.cons_cons y
    .have H:(j==j+(t+1))=false:=by simp
     rw[if_neg (by simp[v,H])];rw[List.eraseIdx_cons_succ,G];congr 2;funext u;rw[bM]
theorem jk {f g:Nat->Bool}:∀{es:List Ent} {j:Nat},(∀t,t<es.length->f (j+t)=g (j+t))->dW f es j=dW g es j
 |[],j,_=>rfl
 |x::r,j,h=>by
  unfold dW;have u:=h 0 (by simp);simp only[ko]at u;have A:dW f r (j+1)=dW g r (j+1):=jk fun t v=>by
   have:=h (t+1) (by simpa using v);rwa[<-bM]at this
  rw[u,A]
theorem CG:∀(xs:List Ent) (j:Nat),KM xs j=xs.eraseIdx j
 |[],j=>rfl
 |x::xs,0=>rfl
 |x::xs,j+1=>by simp[KM,CG xs j]
theorem born_inj {es:List Ent}{c:Nat}(hb:jZ es c){i j:Nat}{x y:Ent}(hx:es[i]? =some x)(hy:es[j]? =some y)(h:x.2.2=y.2.2):i=j:=by
 have B:=hb.1;rw[NE]at B;obtain⟨v,rfl⟩:=aS.1 hx;obtain⟨A,rfl⟩:=aS.1 hy;have:=zM.1 B;rcases NR i j with u|u|u
 .have:=this i j v A u;omega
 .exact u
 .have:=this j i A v u;omega
theorem P8 {l:List MapEntry}(hn:(l.map (·.born)).Nodup){i j:Nat}{x y:MapEntry}(hx:l[i]? =some x)(hy:l[j]? =some y)(h:x.born=y.born):i=j:=by
 obtain⟨v,rfl⟩:=aS.1 hx;obtain⟨A,rfl⟩:=aS.1 hy;rw[List.Nodup,NE]at hn;have:=zM.1 hn;rcases NR i j with u|u|u
 .exact absurd h (this i j v A u)
 .exact u
 .exact absurd h.symm (this j i A v u)
noncomputable def Gh (ι ι':Io):Prop:=∀b x,ι b=some x->∃y,ι' b=some y/\y.r=x.r/\y.cap=x.cap
mutual
theorem VR.gh {ι ι':Io}(hs:Gh ι ι'):∀(t:T) {v:Value},VR ι t v->VR ι' t v
 | .bool b,v,h=>by simpa only[VR]using h
 | .int k n,v,h=>by simpa only[VR]using h
 | .str s,v,h=>by simpa only[VR]using h
 | .rZ,v,h=>by simpa only[VR]using h
 | .ptr b o,v,h=>by simp only[VR]at *;obtain⟨x,j,u⟩:=h;obtain⟨y,A,B,_⟩:=hs _ _ j;exact⟨y,A,by rw[B];exact u⟩
 | .dh,v,h=>by simpa only[VR]using h
 | .slice b o n c,v,h=>by simp only[VR]at *;obtain⟨x,j,u⟩:=h;obtain⟨y,A,B,_⟩:=hs _ _ j;exact⟨y,A,by rw[B];exact u⟩
 | .own b n,v,h=>by simp only[VR]at *;obtain⟨x,j,u⟩:=h;obtain⟨y,A,B,G⟩:=hs _ _ j;exact⟨y,A,by rw[B,G];exact u⟩
 | .sub b o n,v,h=>by simp only[VR]at *;obtain⟨x,c,j,u⟩:=h;obtain⟨y,A,B,_⟩:=hs _ _ j;exact⟨y,c,A,by rw[B];exact u⟩
 | .empty,v,h=>by simpa only[VR]using h
 | .pY,v,h=>by simpa only[VR]using h
 | .map b,v,h=>by simp only[VR]at *;obtain⟨x,j,u⟩:=h;obtain⟨y,A,B,_⟩:=hs _ _ j;exact⟨y,A,by rw[B];exact u⟩
 | .func f a b,v,h=>by
   simp only[VR]at *;split at h
   .obtain⟨j,u,x,C,H⟩:=h;obtain⟨y,A,B,_⟩:=hs _ _ C;exact⟨j,u,y,A,by rw[B];exact H⟩
   .obtain⟨c,d,j,u,C⟩:=h;exact⟨c,d,j,VL.gh hs a u,VL.gh hs b C⟩
 | .nC,v,h=>by simpa only[VR]using h
 | .iM,v,h=>by simpa only[VR]using h
 | .agg cs,v,h=>by simp only[VR]at *;obtain⟨vs,j,u⟩:=h;exact⟨vs,j,VL.gh hs cs u⟩
 | .tup cs,v,h=>by simp only[VR]at *;obtain⟨vs,j,u⟩:=h;exact⟨vs,j,VL.gh hs cs u⟩
 | .any,v,h=>by simp only[VR]
 | .res k m r lo hi,v,h=>by simpa only[VR]using h
theorem VL.gh {ι ι':Io}(hs:Gh ι ι'):∀(ts:List T) {vs:List Value},VL ι ts vs->VL ι' ts vs
 |[],vs,h=>by simpa only[VL]using h
 |c::cs,vs,h=>by
  simp only[VL]at *;obtain⟨v,j,u,A,B⟩:=h;exact⟨v,j,u,VR.gh hs c A,VL.gh hs cs B⟩
end
mutual
theorem VR.back {ι ι':Io}(hs:Gh ι ι'):∀(t:T) {v0 v:Value},VR ι t v0->VR ι' t v->VR ι t v
 | .bool b,v0,v,h0,h=>by simpa only[VR]using h
 | .int k n,v0,v,h0,h=>by simpa only[VR]using h
 | .str s,v0,v,h0,h=>by simpa only[VR]using h
 | .rZ,v0,v,h0,h=>by simpa only[VR]using h
 | .ptr b o,v0,v,h0,h=>by
   simp only[VR]at *;obtain⟨x,j,_⟩:=h0;obtain⟨H,u,A⟩:=h;obtain⟨y,B,C,_⟩:=hs _ _ j;rw[B]at u;cases u;exact⟨x,j,by rw[<-C];exact A⟩
 | .dh,v0,v,h0,h=>by simpa only[VR]using h
 | .slice b o n c,v0,v,h0,h=>by
   simp only[VR]at *;obtain⟨x,j,_⟩:=h0;obtain⟨H,u,A⟩:=h;obtain⟨y,B,C,_⟩:=hs _ _ j;rw[B]at u;cases u;exact⟨x,j,by rw[<-C];exact A⟩
 | .own b n,v0,v,h0,h=>by
   simp only[VR]at *;obtain⟨x,j,_⟩:=h0;obtain⟨H,u,A⟩:=h;obtain⟨y,B,C,O⟩:=hs _ _ j;rw[B]at u;cases u;exact⟨x,j,by rw[<-C,<-O];exact A⟩
 | .sub b o n,v0,v,h0,h=>by
   simp only[VR]at *;obtain⟨x,c,j,_⟩:=h0;obtain⟨H,N,u,A⟩:=h;obtain⟨y,B,C,_⟩:=hs _ _ j;rw[B]at u;cases u;exact⟨x,N,j,by rw[<-C];exact A⟩
 | .empty,v0,v,h0,h=>by simpa only[VR]using h
 | .pY,v0,v,h0,h=>by simpa only[VR]using h
 | .map b,v0,v,h0,h=>by
   simp only[VR]at *;obtain⟨x,j,_⟩:=h0;obtain⟨H,u,A⟩:=h;obtain⟨y,B,C,_⟩:=hs _ _ j;rw[B]at u;cases u;exact⟨x,j,by rw[<-C];exact A⟩
 | .func f a b,v0,v,h0,h=>by
   cases f<;>simp only[VR]at h0 h ⊢<;>first
    |(obtain⟨j,G,H,u,A⟩:=h;obtain⟨_,_,x,I,_⟩:=h0;obtain⟨y,B,C,_⟩:=hs _ _ I;rw[B]at u;cases u;exact⟨j,G,x,I,by rw[<-C];exact A⟩)
    |(obtain⟨c,d,j,G,u⟩:=h;obtain⟨c0,R,_,I,Q⟩:=h0;exact⟨c,d,j,VL.back hs a I G,VL.back hs b Q u⟩)
 | .nC,v0,v,h0,h=>by simpa only[VR]using h
 | .iM,v0,v,h0,h=>by simpa only[VR]using h
 | .agg cs,v0,v,h0,h=>by simp only[VR]at *;obtain⟨vs,j,G⟩:=h;obtain⟨J,_,A⟩:=h0;exact⟨vs,j,VL.back hs cs A G⟩
 | .tup cs,v0,v,h0,h=>by simp only[VR]at *;obtain⟨vs,j,G⟩:=h;obtain⟨J,_,A⟩:=h0;exact⟨vs,j,VL.back hs cs A G⟩
 | .any,v0,v,h0,h=>by simp only[VR]
 | .res k m r lo hi,v0,v,h0,h=>by simpa only[VR]using h
theorem VL.back {ι ι':Io}(hs:Gh ι ι'):∀(ts:List T) {vs0 vs:List Value},VL ι ts vs0->VL ι' ts vs->VL ι ts vs
 |[],vs0,vs,h0,h=>by simpa only[VL]using h
 |c::cs,vs0,vs,h0,h=>by
  simp only[VL]at *;obtain⟨I,u,_,A,B⟩:=h0;obtain⟨v,j,C,G,H⟩:=h;exact⟨v,j,C,VR.back hs c A G,VL.back hs cs B H⟩
end
section
variable {es:List Ent}{mp r:Nat}{ι':Io}
theorem EL.gh {ι ι':Io}(hs:Gh ι ι'):∀{xs:List Ent} {l:List MapEntry},EL ι xs l->EL ι' xs l
 |[],l,h=>h
 |x::xs,l,⟨e,r,h1,h2,h3⟩=>⟨e,r,h1,⟨VR.gh hs _ h2.1,VR.gh hs _ h2.2.1,h2.2.2⟩,EL.gh hs h3⟩
theorem RE.gh {ι:Io}(hs:Gh ι ι')(re:RE ι m e er):RE ι' m e er:=⟨re.len,re.fit,fun i j=>VR.gh hs _ (re.get i j)⟩
theorem DL.gh {ι ι':Io}(hs:Gh ι ι'):∀{d:List Nat} {l:List Deferred},DL ι d l->DL ι' d l
 |[],l,h=>h
 |b::ds,l,⟨y,r,h1,h2,h3⟩=>by
  obtain⟨v,j,u,_⟩:=hs _ _ h1;exact⟨v,r,j,by rw[u];exact h2,DL.gh hs h3⟩
theorem DL.same {ι ι':Io}(hs:Gh ι ι'):∀{d d':List Nat} {l l':List Deferred},iD d d'=true->DL ι d l->DL ι' d' l'->l'=l
 |[],[],l,l',_,h,h'=>by have h:l=[]:=h;have h':l'=[]:=h';rw[h,h']
 |a::ds,b::ds',l,l',hsd,⟨y,r,h1,h2,h3⟩,⟨y',r',h1',h2',h3'⟩=>by
  simp only[iD]at hsd;split at hsd
  .rename_i j;obtain rfl:=aC j;obtain⟨z,u,v,_⟩:=hs _ _ h1;rw[u]at h1';cases h1';rw[h2,h2',v,DL.same hs hsd h3 h3']
  .cases hsd
 |[],_::_,_,_,hsd,_,_=>by simp[iD]at hsd
 |_::_,[],_,_,hsd,_,_=>by simp[iD]at hsd
theorem RO.gh {ι:Io}(hs:Gh ι ι'):∀{b:Option Nat} {l:Option Nat},RO ι b l->RO ι' b l
 |none,l,h=>h
 |some b,l,⟨y,h1,h2⟩=>by
  obtain⟨v,j,u,_⟩:=hs _ _ h1;exact⟨v,j,by rw[u];exact h2⟩
theorem OR.gh {ι:Io}(hs:Gh ι ι'){x:Inf}:∀{o:VO} {ob:Obj},amO (some o)=false->OR P ι x o ob->OR P ι' x o ob
 | .row cs ct tail,ob,_,⟨cur,u,v,A,h4⟩=>⟨cur,u,v,VL.gh hs _ A,h4⟩
 | .ro cs ct,ob,_,⟨cur,fr,u,v,A⟩=>⟨cur,fr,u,v,VL.gh hs _ A⟩
 | .map es clock,ob,_,⟨ents,u,v,A⟩=>⟨ents,u,EL.gh hs v,A⟩
 | .pO s pos,ob,_,h=>h
 | .iU mp since seen last,ob,_,⟨y,u,v⟩=>by
   obtain⟨H,C,G,_⟩:=hs _ _ u;exact⟨H,C,by rw[G];exact v⟩
 | .bag els ct,ob,_,⟨els',cur,u,v,A,h4,h5⟩=>⟨els',cur,u,v,A,VL.gh hs _ h4,h5⟩
 | .iB mp since w last,ob,_,h=>by
   obtain⟨y,B,u,v,A⟩:=h;obtain⟨H,C,G,_⟩:=hs _ _ u;exact⟨H,B,C,by rw[G];exact v,A⟩
 | .iG mp since seen last,ob,_,⟨y,B,c,u,v,A⟩=>by
   obtain⟨H,C,G,_⟩:=hs _ _ u;exact⟨H,B,c,C,by rw[G];exact v,A⟩
 | .BL mp since k bs,ob,_,⟨y,B,c,u,v,A⟩=>by
   obtain⟨H,C,G,_⟩:=hs _ _ u;exact⟨H,B,c,C,by rw[G];exact v,A⟩
 | .loop st pend dp n tm pa asg bd df,ob,_,⟨fn,tr,y,u,v,A⟩=>by
   obtain⟨H,C,G,_⟩:=hs _ _ u;exact⟨fn,tr,H,C,by rw[G];exact v,A.gh hs⟩
 | .uf true,ob,_,h=>h
 | .uf false,ob,_,h=>h
 | .tZ es j del,ob,ha,_=>by simp[amO]at ha
 | .pick mp,ob,ha,_=>by simp[amO]at ha
theorem Vo:∀(q:Pa) {t:En (Option VO)},amV t=false->amO (En.get q t)=false:=by
 intro q;induction q with
 |e=>
  intro t j;cases t with
  |leaf v=>exact j
  |node l r=>
   have:∀{t:En (Option VO)},amV t=false->amO t.lf=false:=by
    intro t;induction t with
    |leaf v=>exact fun h=>h
    |node l r ihl _=>
     intro h;refine ihl ?_;have h:(match amV l with|true=>true|false=>amV r)=false:=h;split at h
     .cases h
     .assumption
   exact this (t:= .node l r) j
 |o q ih=>
  intro t j;cases t with
  |leaf v=>exact j
  |node l r=>
   have j:(match amV l with|true=>true|false=>amV r)=false:=j;rw[En.BS];split at j
   .cases j
   .rename_i h;exact ih h
 |i q ih=>
  intro t j;cases t with
  |leaf v=>exact j
  |node l r=>
   have j:(match amV l with|true=>true|false=>amV r)=false:=j;rw[En.Aq];split at j
   .cases j
   .exact ih j
theorem MW (ha:amV s.V=false){b:Nat}{o:VO}(hb:s.at b=some o):amO (some o)=false:=by
 unfold S.at at hb;rw[aJ]at hb;split at hb
 .rw[<-hb];exact Vo _ ha
 .cases hb
theorem uH:∀{n:Nat},yP m e e' n=true->∀x,x<n->bu m e x= .any\/bu m e x=bu m e' x
 |0,_,x,hx=>by omega
 |n+1,h,x,hx=>by
  have h:(match bu m e n with| .any=>yP m e e' n|t=>match eqF t (bu m e' n)with|true=>yP m e e' n|false=>false)=true:=h;have j:(bu m e n= .any\/bu m e n=bu m e' n)/\yP m e e' n=true:=by
   split at h
   .rename_i v;exact⟨.inl v,h⟩
   .split at h
    .rename_i A;exact⟨.inr (jV A),h⟩
    .cases h
  rcases sD x n with u|u
  .exact uH j.2 x u
  .obtain rfl:x=n:=by omega
   exact j.1
theorem qh:∀{ts:List Tmp} {e:E},RE ι m e er->RE ι m (forget m ts e) er
 |[],e,re=>re
 |t::ts,e,re=>by
  unfold forget;rw[aJ];split
  .rename_i v;rw[En.aV];refine qh ⟨re.len,re.fit,fun i u=> ?_⟩;have j:=re.fit;rw[En.bT (bv u j) (bv (aH.1 v) j)];split
   .simp only[VR]
   .exact re.get i u
  .exact qh re
theorem uJ (hf:m.n<=2^m.dp):∀{ts:List Tmp} {e:E} (x:Nat),bu m (forget m ts e) x= .any\/bu m (forget m ts e) x=bu m e x
 |[],e,x=> .inr rfl
 |t::ts,e,x=>by
  unfold forget;rw[aJ];split
  .rename_i j;rw[En.aV];rcases uJ hf (ts:=ts) (e:=En.set (Pa.of m.dp t) T.any e) x with h|h
   .exact .inl h
   .rw[h];unfold bu;rw[aJ,aJ];split
    .rename_i u;rw[En.bT (bv (aH.1 u) hf) (bv (aH.1 j) hf)];split
     .exact .inl rfl
     .exact .inr rfl
    .exact .inr rfl
  .exact uJ hf x
theorem VV (n:Nat):∀us:List Value,us.length=n->VL ι (rep n [.any]) us:=by
 induction n with
 |zero=>intro us h;cases us with|nil=>simp[rep,VL]|cons _ _=>simp at h
 |succ n ih=>
  intro us h;cases us with
  |nil=>simp at h
  |cons u us=>
   simp only[rep,qp,tq,VL];exact⟨u,us,rfl,by simp[VR],ih us (by simpa using h)⟩
theorem wz {g:FuncId}{vs:List Value}(hx:∀w:World,w.heap=h->∃v w',(callFunc g vs.toArray).run P w= .ok (.value v) w'/\Eng.Rest w w'/\Post P ι s h t s' v w'.heap):JA P (.func (.func g) #[] #[]) vs h (Post P ι s h t s'):=by
 intro er f xs B ty J u;refine rC rfl fun W I=> ?_
 obtain⟨v,A,C,G,H⟩:=hx W I;have j:xs.map (ev er)=vs.toArray:=by apply bz.1;simpa using u
 refine⟨v,A,?_,G,H⟩;simp only[execOp,resolve,J,Deferred.ofValue,invoke,aY,bE,aN,j];simpa using C
theorem RH (ok:Ok P p){g:FuncId}{x:X}(hq:TJ P g x)(hne:x≠.no){first caps args:List T}{c dd:Array Value}{vs:List Value}(hd:Kr p s x first caps args= .ok (t,s'))(h1:VL ι first c.toList)(h2:VL ι caps dd.toList)(hv:VL ι args vs)(H:Sim P ι s h):
 JA P (.func (.func g) c dd) vs h (Post P ι s h t s'):=by
 unfold Kr at hd;split at hd
 .simp only[VL,Array.toList_eq_nil_iff]at h1 h2;subst h1 h2;split at hd
  .rename_i r u;cases hd;unfold zAO at u;split at u
   .rename_i el n;split at u
    .rename_i I;cases u;simp only[aF]at I;obtain⟨ei,hei,N,hu8,te⟩:=jy ok I.1;have hn:=aH.1 I.2;obtain⟨ps,tt,htt,R⟩:=hq;simp only[VL,VR,bL]at hv;obtain⟨_,_,rfl,rfl,rfl⟩:=hv;refine wz fun w U=> ?_
     obtain⟨cs,q1,q2,q3⟩:=Lib.run_makeNoZero w ps tt el htt n (by omega);refine⟨.slice (some ⟨w.heap.size,0,none⟩) n cs.size,w.drew.drew.alloc (.cells cs el),?_,⟨rfl,rfl,rfl⟩,?_⟩
     .rw[R];have:(#[nX .i64 (n:Int)]:Array Value)=[nX .i64 (n:Int)].toArray:=rfl;rw[<-this,q1];rfl
     .subst U;have:=Nc (zs:=cs.toList.drop n) (us:=cs.toList.take n) (cap:=cs.size) (n:=n) H te (by omega) (VV n (cs.toList.take n) (by simp;omega)) (by simp[N];omega) (q3 (by simp only[maxLen];omega)) q2;rw[qM]at this;exact this
    .cases u
   .rename_i l A;cases u;simp only[VL,VR,bL]at hv;obtain⟨_,_,rfl,rfl,_,_,rfl,rfl,rfl⟩:=hv;refine wz fun w U=>⟨_,w,?_,Eng.Rest.refl w,by rw[U];exact Post.pure H (by simp only[VR];rfl)⟩
    have hq:∀(args:Array Value) (w:World),_:=hq;have:=Lib.run_countString (P:=P) ⟨⟨l⟩⟩ (A:Int) w;rw[hq];have e:(#[Ic ⟨⟨l⟩⟩,nX .u8 (A:Int)]:Array Value)=[Ic ⟨⟨l⟩⟩,nX .u8 (A:Int)].toArray:=rfl;rw[<-e,this];rfl
   .rename_i l A;cases u;simp only[VL,VR,bL]at hv;obtain⟨_,_,rfl,rfl,_,_,rfl,rfl,rfl⟩:=hv;refine wz fun w U=>⟨_,w,?_,Eng.Rest.refl w,by rw[U];exact Post.pure H (by simp only[VR];rfl)⟩
    have hq:∀(args:Array Value) (w:World),_:=hq;have:=Lib.run_indexByteString (P:=P) ⟨⟨l⟩⟩ (A:Int) w;rw[hq];have e:(#[Ic ⟨⟨l⟩⟩,nX .u8 (A:Int)]:Array Value)=[Ic ⟨⟨l⟩⟩,nX .u8 (A:Int)].toArray:=rfl;rw[<-e,this];rfl
   .cases u;have hq:∀h:Heap,ak P g #[] h (fun v h'=>v= .bool true/\Ext h h'):=hq;simp only[VL]at hv;subst hv;refine pJ ((hq h).mono ?_);rintro v h' ⟨rfl,x⟩;obtain⟨g1,g2⟩:=H.grown x.size x.old;exact⟨ι,g2,g1,by simp only[VR]⟩
   .rename_i k b;have hq:Xm P g k:=hq;simp only[VL,VR]at hv;obtain⟨_,_,rfl,⟨y,Z,rfl⟩,rfl⟩:=hv;split at u
    .rename_i A d ct hb;obtain⟨B,W,hle,G,htl⟩:=qZ H hb Z;have N:=htl.1 rfl;have Q:B.toList.take 2=B.toList:=List.take_of_length_le (by simp at N ⊢;omega);have G:VL ι [A,d] B.toList:=by rw[<-Q];exact G
     simp only[VL]at G;obtain⟨cv,_,J,C,O,_,rfl,hdv,rfl⟩:=G;have J:B= #[cv,O]:=by apply bz.1;rw[J]
     subst J;split at u
     .rename_i hk;obtain rfl:=aC hk;cases u;simp only[VR]at C;subst C;have I:=hq h y.r _ O W (.inl rfl);refine pJ (I.mono ?_);rintro v h' ⟨rfl,rfl⟩;exact gW H hb Z (o:= .row [.ptr b 0,d] _ false) (ob:= .cells #[.pointer (some ⟨y.r,0,none⟩),O] _ (0,0)) ⟨_,rfl,by simp,by simp only[ed,List.length_nil,VL,VR];exact⟨_,_,rfl,⟨y,Z,rfl⟩,_,_,rfl,hdv,rfl⟩,fun _=>rfl,fun hh=>(by cases hh)⟩ JM
     .rename_i b' hk;obtain rfl:=aC hk;split at u
      .rename_i hbb;obtain rfl:=aC hbb;cases u;simp only[VR]at C;obtain⟨y',V,rfl⟩:=C;rw[Z]at V;cases V;have I:=hq h y.r _ O W (.inr rfl);refine pJ (I.mono ?_);rintro v h' ⟨rfl,rfl⟩;have:h.setIfInBounds y.r (.cells #[.pointer (some ⟨y.r,0,none⟩),O] ct (0,0))=h:=by
        apply Array.ext_getElem?;intro j;rw[Array.getElem?_setIfInBounds];split
        .rename_i hj;subst hj;split
         .exact W.symm
         .rename_i hlt;exact absurd (bA W) hlt
        .rfl
       rw[this];exact Post.pure H JM
      .cases u
     .cases u
    .cases u
   .cases u
  .cases hd
 .cases hd
theorem Js (ok:Ok P p)(lb:fE P p)(sd:Snd P self):iN P (iJ p self):=by
 intro f C s t s' j ι h v vs A B H;unfold iJ at j;split at j
 .rename_i g first G
  simp only[VR]at A;obtain⟨c,I,rfl,J,N⟩:=A;unfold XM at j;cases u:p.ext g with
  |no=>
  rw[u]at j;refine pJ ?_;have:=EO ok lb sd j ((J.append B).append N) H;have Q:(c.toList++vs++I.toList).toArray=c++vs.toArray++I:=by apply bz.1;simp
  rw[Q]at this;exact this
  |_=>
   rw[u]at j;have O:=ok.ext g;rw[u]at O;exact RH ok O (by simp) j J N B H
 .rename_i l;simp only[VR]at A;obtain⟨_,_,x,u,rfl⟩:=A;exact Gz sd j u B H
 .cases j
theorem Qj {a:Option Tmp}{j:Nat}{b:Code}{all:List Ent}{k v:T}{y q:Bool×Bool}(h1:jC p self m ro b e d s r mp all j k v a false=some y)(h2:qH p self m ro b e d s r mp all j k v a y=some q):jC p self m ro b e d s r mp all j k v a true=some q:=by
 unfold qH at h2;cases a with
 |none=>rw[<-h2,<-h1];rfl
 |some t=>exact h2
theorem yV {a:Option Tmp}{r mp:Nat}{b:Code}{all:List Ent}:∀{rest:List Ent} {j0:Nat} {l:List Ent} {z:Bool},rounds p self m ro b e d s r mp a all rest j0=some (l,z)->
 ∃D Y:Nat->Bool,(∀i k v w,rest[i]? =some (k,v,w)->jC p self m ro b e d s r mp all (j0+i) k v a false=some (D (j0+i),Y (j0+i))/\∃y',jC p self m ro b e d s r mp all (j0+i) k v a true=some (D (j0+i),y')/\(y'=true\/a=none))/\
  l=dW D rest j0/\(z=true<->∃i,i<rest.length/\Y (j0+i)=true)
 |[],j0,l,z,h=>by
  simp only[rounds,Option.some.injEq,Prod.mk.injEq]at h;obtain⟨rfl,rfl⟩:=h;exact⟨fun _=>false,fun _=>false,by simp,rfl,by simp⟩
 |(k,v,w)::rest,j0,l,z,h=>by
  simp only[rounds]at h;split at h
  .rename_i del y U;split at h
   .rename_i Q y' O
    replace O:=Qj U O
    split at h
    .rename_i l' z' V hr;simp only[Option.some.injEq,Prod.mk.injEq]at h;obtain⟨rfl,rfl⟩:=h;simp only[aF,beq_iff_eq,gL,Option.isNone_iff_eq_none]at V;obtain⟨rfl,hy⟩:=V;obtain⟨D,Y,Z,g2,R⟩:=yV hr;obtain⟨G,H,I⟩:∃G:Nat->Bool,G j0=del/\∀t,t≠j0->G t=D t:=⟨fun t=>if t=j0 then del else D t,by simp,fun t N=>by simp[N]⟩;obtain⟨J,j,u⟩:∃J:Nat->Bool,J j0=y/\∀t,t≠j0->J t=Y t:=⟨fun t=>if t=j0 then y else Y t,by simp,fun t N=>by simp[N]⟩;refine⟨G,J,?_,?_,?_⟩
     .intro i k' v' w' B;cases i with
      |zero=>
       simp only[List.getElem?_cons_zero,Option.some.injEq,Prod.mk.injEq]at B;obtain⟨rfl,rfl,rfl⟩:=B;rw[ko,H,j];exact⟨U,y',O,hy⟩
      |succ i=>
       have:=Z i k' v' w' (by simpa using B);rw[bM]at this;rw[I _ (by omega),u _ (by omega)];exact this
     .have W:dW G rest (j0+1)=dW D rest (j0+1):=jk fun t N=>I _ (by omega)
      unfold dW;rw[H,W,g2];cases del<;>rfl
     .constructor
      .intro C;rw[gL]at C;rcases C with C|C
       .exact⟨0,by simp,by rw[ko,j];exact C⟩
       .obtain⟨i,B,A⟩:=R.1 C;refine⟨i+1,by simp;omega,?_⟩;rw[u _ (by omega),<-bM];exact A
      .rintro⟨i,B,A⟩;rw[gL];cases i with
       |zero=>left;rw[ko,j]at A;exact A
       |succ i=>
        right;refine R.2 ⟨i,by simpa using B,?_⟩;rw[u _ (by omega)]at A;rw[bM];exact A
    .cases h
   .cases h
  .cases h
theorem DI {a:Option Tmp}{j:Nat}{b:Code}{k v:T}{x del y:Bool}(h:jC p self m ro b e d s r mp es j k v a x=some (del,y)):
 ∃e' d' s' es2 j2,bY p self m ro (.tup [.bool true,k,v]) b (qG m a x e) d (dX (dX ⟨s.V,s.nx,1000000000⟩ mp (.tZ es j false)) r (.pick mp))= .ok ⟨.normal,e',d',s'⟩/\s.nx<=s'.low/\yP m e e' m.n=true/\iD d d'=true/\
  s'.at mp=some (.tZ es2 j2 del)/\AZ m a e'=some y:=by
 unfold jC at h;split at h
 .rename_i e' d' s' G;split at h
  .rename_i es2 j2 C H A B u;cases h;simp only[aF]at A;exact⟨e',d',s',es2,j2,G,aH.1 A.1.1,A.1.2,A.2,B,u⟩
  .cases h
 .cases h
structure MI (P:Program)(ι:Io)(h0:Heap)(m:Fm)(es:List Ent)(clock since:Nat)(ym yr:Inf)(D Y:Nat->Bool)(a:Option Tmp)(x0:Bool)(eb:E)(V:Nat->Bool)(er:Env)(h:Heap):Prop where
 size:h0.size<=h.size
 old:∀q,q<h0.size->q≠ym.r->q≠yr.r->h[q]? =h0[q]?
 it:∃seen lastv,h[yr.r]? =some (.mapIter (some ym.r) since seen lastv)/\since<=lastv/\∀j x,es[j]? =some x->seen.contains x.2.2=V j
 mp:∃ents,h[ym.r]? =some (.map ents clock)/\EL ι (dW (fun j=>V j&&D j) es 0) ents.toList
 re:∃c:Bool,(c=true<->∃j,j<es.length/\V j=true/\Y j=true)/\RE ι m (qG m a (x0||c) eb) er
theorem IE {ιs:Io}{s2:S}{h0:Heap}{ym yr x1:Inf}{clock:Nat}{since last:Nat}(H:Sim P ι s h0)(ha:amV s.V=false)(hmp:s.at mp=some (.map es clock))(hr:s.at r=some (.iU mp since [] last))(hym:ι mp=some ym)(hyr:ι r=some yr)(hgh:Gh ι ιs)(hιs:∀b,b≠mp->ιs b=ι b)(hx1:ιs mp=some x1)(hxr:x1.r=ym.r)(hnx:s2.nx=s.nx)(hat:∀b,b≠mp->b≠r->s2.at b=s.at b)(hsz:h0.size<=h.size)(hold:∀q,q<h0.size->q≠ym.r->q≠yr.r->h[q]? =h0[q]?)(ho1:∀o,s2.at mp=some o->∃ob,h[ym.r]? =some ob/\OR P ιs x1 o ob)(ho2:∀o,s2.at r=some o->∃ob,h[yr.r]? =some ob/\OR P ιs yr o ob)(hmr:mp≠r):Sim P ιs s2 h:=by
 have same:∀b x,ιs b=some x->∃y,ι b=some y/\y.r=x.r:=by
  intro b x B;by_cases j:b=mp
  .subst j;rw[hx1]at B;cases B;exact⟨ym,hym,hxr.symm⟩
  .rw[hιs b j]at B;exact⟨x,B,rfl⟩
 have C:∀b,s2.at b≠none->s.at b≠none:=by
  intro b j;by_cases u:b=mp
  .subst u;rw[hmp];simp
  .by_cases v:b=r
   .subst v;rw[hr];simp
   .rw[<-hat b u v];exact j
 refine⟨fun b x B=> ?_,fun b c x y j R B U J=> ?_,fun b o j=> ?_⟩
 .obtain⟨y,u,v⟩:=same b x B;have:=H.fresh b y u;rw[hnx,<-v];exact⟨this.1,by omega⟩
 .obtain⟨W,u,v⟩:=same b x B;obtain⟨Z,O,Q⟩:=same c y U;exact H.inj b c W Z (C b j) (C c R) u O (by rw[v,Q,J])
 .by_cases u:b=mp
  .subst u;obtain⟨ob,A,I⟩:=ho1 o j;exact⟨x1,ob,hx1,by rw[hxr];exact A,I⟩
  .by_cases v:b=r
   .subst v;obtain⟨ob,A,I⟩:=ho2 o j;exact⟨yr,ob,by rw[hιs b u];exact hyr,A,I⟩
   .rw[hat b u v]at j;obtain⟨x,ob,A,I,N⟩:=H.obj b o j;refine⟨x,ob,by rw[hιs b u];exact A,?_,OR.gh hgh (MW ha j) N⟩;rw[hold x.r (H.fresh b x A).2 ?_ ?_]
    .exact I
    .intro G;exact u (H.inj b mp x ym (by rw[j];simp) (by rw[hmp];simp) A hym G)
    .intro G;exact v (H.inj b r x yr (by rw[j];simp) (by rw[hr];simp) A hyr G)
theorem EL.zBs {xs:List Ent}{l:List MapEntry}{i:Nat}{e:MapEntry}(H:EL ι xs l)(he:l[i]? =some e):∃x,xs[i]? =some x/\ER ι x e:=by
 have u:i<xs.length:=by rw[<-H.length];exact(aS.1 he).1
 obtain⟨e',j,v⟩:=H.get (aW u);rw[he]at j;cases j;exact⟨_,aW u,v⟩
theorem DN {f:Nat->Bool}:∀{es:List Ent} {j t:Nat} {x:Ent},es[t]? =some x->f (j+t)=false->x∈dW f es j
 |[],j,t,x,h,_=>by simp at h
 |y::r,j,0,x,h,hf=>by
  simp at h;subst h;simp only[ko]at hf;unfold dW;rw[if_neg (by simp[hf])];simp
 |y::r,j,t+1,x,h,hf=>by
  have:=DN (es:=r) (j:=j+1) (t:=t) (x:=x) (by simpa using h) (by rw[bM];exact hf);unfold dW;split
  .exact this
  .exact List.mem_cons_of_mem _ this
theorem jZ.sub {es':List Ent}{c:Nat}(hb:jZ es c)(hs:es'.Sublist es):jZ es' c:=⟨List.Pairwise.sublist (hs.map _) hb.1,fun x j=>hb.2 x (hs.subset j)⟩
noncomputable def itS (h:Heap)(r:Nat):Array Nat:=match h[r]? with|some (.mapIter _ _ s _)=>s|_=> #[]
theorem nk (hf:m.n<=2^m.dp){a:Option Tmp}{v:Bool}{eb:E}{x:Nat}(hx:x<m.n)(ha:∀t,a=some t->t<m.n):En.get (Pa.of m.dp x) (qG m a v eb)=if a=some x then .bool v else En.get (Pa.of m.dp x) eb:=by
 cases a with
 |none=>simp[qG]
 |some t=>
  simp only[qG,En.aV];rw[En.bT (bv hx hf) (bv (ha t rfl) hf)];by_cases h:x=t
  .subst h;simp
  .rw[if_neg h,if_neg (by simp;exact fun h'=>h h'.symm)]
theorem Ez {x:Nat}(hx:x<m.n)(e:E):bu m e x=En.get (Pa.of m.dp x) e:=by
 unfold bu;rw[aJ,if_pos (aH.2 hx)]
theorem Sa {a:Option Tmp}{b:Code}(h:Uc m e b=some a):∀t,a=some t->t<m.n:=by
 intro t A;subst A;unfold Uc at h;split at h
 .cases h
 .rename_i B u;cases h;have:t∈(uk b).filter (isBool m e):=by rw[u];simp
  have j:=(dM.1 this).2;unfold isBool at j;split at j
  .rw[aJ]at j;split at j
   .rename_i v;exact aH.1 v
   .cases j
  .cases j
 .cases h
theorem BH {a:Option Tmp}(ha:∀t,a=some t->t<m.n){y:Bool}(h:AZ m a e=some y):∀t,a=some t->bu m e t= .bool y:=by
 intro t j;subst j;unfold AZ at h;simp only at h;split at h
 .rename_i v u;cases h;exact u
 .cases h
theorem vR (s:S)(b c:Nat)(o:VO):(dX s b o).at c=if b<=16383/\c=b then some o else s.at c:=bO s b c (some o) s.nx s.low
theorem Pf (ok:Ok P p)(lb:fE P p)(sd:Snd P self){b:Code}{clock:Nat}{q:Tmp}{since last:Nat}(hn:bq b=some q)(hq:bu m e q= .ptr r 0)(hr:s.at r=some (.iU mp since [] last))(hmp:s.at mp=some (.map es clock))(hd:GY p self m ro b e d s q r mp since last es clock= .ok o)(re:RE ι m e er)(H:Sim P ι s h)(D:DL ι d dr)(R:RO ι ro l):WP l P (.loop b) (CP P ι s h m o) er dr h:=by
 have hcf:=Js ok lb sd;unfold GY at hd;split at hd
 case h_2=>cases hd
 rename_i a hacc;have U:=Sa hacc;split at hd
 case h_2=>cases hd
 rename_i x0 pb po hx0 hqb hchk;simp only[aF,lh]at hchk;obtain⟨⟨⟨⟨ham,hsl⟩,hsc⟩,hall⟩,hfree⟩:=hchk;have hsl:=aH.1 hsl;have hsc:=aH.1 hsc;split at hd
 case h_2=>cases hd
 rename_i l' z hrounds;obtain⟨DD,YY,hround,hl',hz⟩:=yV hrounds;simp only[ek]at hround hz;have hfit:=re.fit;generalize heb:forget m (nQ b) e=eb at *;have reb:RE ι m eb er:=by rw[<-heb];exact qh re
 have hqe:bu m eb q= .ptr r 0:=by
  rcases uJ hfit (m:=m) (ts:=nQ b) (e:=e) q with A|A
  .rw[heb,hqb]at A;cases A
  .rw[<-heb,A,hq]
 have hqn:q<m.n:=by
  rcases sD q m.n with A|A
  .exact A
  .unfold bu at hqe;rw[aJ,if_neg (fun hh=>by have:=aH.1 hh;omega)]at hqe;cases hqe
 have haq:a≠some q:=by
  intro haq;subst haq;unfold Ou at hfree;have:aX q q=true:=lG q;simp only[this]at hfree;cases hfree
 have hsq:∀v,bu m (qG m a v eb) q= .ptr r 0:=by
  intro v;rw[Ez hqn,nk hfit hqn U,if_neg haq,<-Ez hqn];exact hqe
 obtain⟨O,ob,hyr,hit0,hor⟩:=H.obj r _ hr;obtain⟨ym,hym,hor⟩:=hor;subst hor;obtain⟨ents0,hm0,hel0,hborn⟩:=jN H hmp hym;have hne:ym.r≠O.r:=by
  intro hh;rw[hh,hit0]at hm0;cases hm0
 have hmr:mp≠r:=by
  intro hh;rw[hh,hr]at hmp;cases hmp
 have hmlt:ym.r<h.size:=(H.fresh mp ym hym).2;have hrlt:O.r<h.size:=(H.fresh r O hyr).2;have hr16:=Nk hr;have hm16:=Nk hmp;have M0:MI P ι h m es clock since ym O DD YY a x0 eb (fun _=>false) er h:=by
  refine⟨bi _,fun _ _ _ _=>rfl,⟨#[],last,hit0,hsl,fun j x _=>by simp⟩,⟨ents0,hm0,?_⟩,⟨false,by simp,?_⟩⟩
  .have hff:(fun j=>(fun _:Nat=>false) j&&DD j)=fun _=>false:=by funext j;rfl
   have key:∀(l:List Ent) (k:Nat),dW (fun _=>false) l k=l:=by
    intro l;induction l with
    |nil=>intro k;rfl
    |cons x l ih=>intro k;unfold dW;rw[if_neg (by simp),ih]
   have:dW (fun j=>(fun _=>false) j&&DD j) es 0=es:=by rw[hff];exact key es 0
   rw[this];exact hel0
  .rw[yQ];refine⟨reb.len,reb.fit,fun x hx=> ?_⟩;rw[nk hfit hx U];split
   .rename_i hax;have hv:=BH U hx0 x hax;have:=iY re x;rw[hv]at this;exact this
   .exact reb.get x hx
 have meas:∀(h:Heap),∃n,(es.filter fun x=> !(itS h O.r).contains x.2.2).length=n:=fun h=>⟨_,rfl⟩
 refine bN fun w hw=>wpIn_loop (fun a' w'=>∃V,MI P ι h m es clock since ym O DD YY a x0 eb V a'.tmps.toList w'.heap/\a'.defers=dr/\Eng.Rest w w') (fun _ w'=>(es.filter fun x=> !(itS w'.heap O.r).contains x.2.2).length)
  ⟨fun _=>false,by subst hw;simpa using M0,rfl,Eng.Rest.refl w⟩ ?_
 rintro a' w' ⟨V,M,hdf,hrest⟩;obtain⟨seen,lastv,hit,hsl',hseen⟩:=M.it;obtain⟨J,hme,Z⟩:=M.mp;obtain⟨c,hc,rec⟩:=M.re;have hkb:jZ (dW (fun j=>V j&&DD j) es 0) clock:=hborn.sub (rP _ _ _);have hnod:=lL Z hkb;have hold:∀x∈J.toList,x.born<since:=by
  intro x hx;obtain⟨y,A,G⟩:=Z.mem hx;have h3:=bJ.1 hall y ((rP _ _ _).subset A);have h4:=bX.1 h3;have B:y.2.2=x.born:=G.2.2;omega
 have hW:WP l P b (fun x er2 dr2 G=>match x with
  | .normal=>(∃V',MI P ι h m es clock since ym O DD YY a x0 eb V' er2 G)/\dr2=dr/\(es.filter fun x=> !(itS G O.r).contains x.2.2).length<(es.filter fun x=> !(itS w'.heap O.r).contains x.2.2).length
  |x=>CP P ι s h m o x er2 dr2 G) a'.tmps.toList dr w'.heap:=by
  refine uW b hn fun ty=> ?_
  unfold aI;refine And.intro rfl fun w1 hw1=> ?_
  have hx:ev a'.tmps.toList (.tmp q)= .pointer (some ⟨O.r,0,none⟩):=by
   have A:=iY rec q;rw[hsq]at A;simp only[VR]at A;obtain⟨y,G,h3⟩:=A;rw[hyr]at G;cases G;exact h3
  rcases run_next_at (P:=P) w1 ty O.r ym.r since lastv seen J clock (by rw[hw1];exact hit) (by rw[hw1];exact hme) hold hsl' with⟨hz0,hrun⟩|⟨e0,he0,w2,hw2,hrun⟩
  .
   have hex:(execOp (ev a'.tmps.toList) {dst:=none,op:= .next (.tmp q) false,type:=ty,pos:= "",after:= #[],guard:=none}).run P w1= .ok (.value (.tuple #[.bool false])) w1:=by
    simp only[execOp,hx,aY,hrun,aN,bE]
   rw[hex];refine⟨?_,Eng.Rest.refl w1⟩;rw[hw1];have hallV:∀j x,es[j]? =some x->V j=true:=by
    intro j x hj;cases hv:V j with
    |true=>rfl
    |false=>
     exfalso;have A:=DN (f:=fun j=>V j&&DD j) (es:=es) (j:=0) hj (by simp[hv]);obtain⟨i,hi⟩:=dL A;obtain⟨e1,G,h3⟩:=Z.get hi;have h4:e1∈leftOf J seen:=by
      unfold leftOf;rw[Oo];refine⟨vC.1 (bQ G),?_⟩;have B:=hseen j x hj;rw[h3.2.2]at B;rw[B,hv];rfl
     have I:=Array.size_pos_of_mem h4;omega
   have hcz:c=z:=by
    rw[mD,hc,hz];constructor
    .rintro⟨j,A,_,h3⟩;exact⟨j,A,h3⟩
    .rintro⟨j,A,h3⟩;exact⟨j,A,hallV j _ (aW A),h3⟩
   have hkeep:dW (fun j=>V j&&DD j) es 0=l':=by
    rw[hl'];refine jk fun t ht=> ?_
    rw[ek,hallV t _ (aW ht),Bool.true_and]
   rw[hkeep]at Z hkb;obtain⟨sf,hsf⟩:∃sf,sf=bG (gI s mp (.map l' clock)) r none s.nx (dz (dz s.low mp) r):=⟨_,rfl⟩;rw[<-hsf]at hd;have hnxf:sf.nx=s.nx:=by rw[hsf,fq]
   have hlowf:sf.low<=s.low/\sf.low<=mp/\sf.low<=r:=by rw[hsf,iR,iI,iI];omega
   have hatf:∀b,sf.at b=if b=r then none else if b=mp then some (.map l' clock)else s.at b:=by
    intro b;rw[hsf,bO,kR,bO];by_cases A:b=r
    .rw[if_pos ⟨hr16,A⟩,if_pos A]
    .rw[if_neg (fun hh=>A hh.2),if_neg A];by_cases G:b=mp
     .rw[if_pos ⟨hm16,G⟩,if_pos G]
     .rw[if_neg (fun hh=>G hh.2),if_neg G]
   have Hf:Sim P ι sf w'.heap:=by
    refine IE H ham hmp hr hym hyr (x1:=ym) (fun b x N=>⟨x,N,rfl,rfl⟩) (fun _ _=>rfl) hym rfl hnxf (fun b A G=>by rw[hatf,if_neg G,if_neg A]) M.size M.old (fun o ho=> ?_) (fun o ho=> ?_) hmr
    .rw[hatf,if_neg hmr,if_pos rfl]at ho;cases ho;exact⟨_,hme,J,rfl,Z,hkb⟩
    .rw[hatf,if_pos rfl]at ho;cases ho
   have hSt:Ste ι s h ι sf w'.heap:=by
    refine⟨fun _ _ h=>h,by rw[hnxf];exact bi _,hlowf.1,M.size,fun b _ N=> ?_,fun _ _ h=> .inl h,fun b x N hb2=> ?_,fun W hq' N=> ?_⟩
    .rw[hatf];split
     .rfl
     .split
      .rename_i G;rw[G,hmp]at N;cases N
      .exact N
    .unfold bZ at hb2;rw[hatf]at hb2;split at hb2
     .rename_i o' ho';split at ho'
      .cases ho'
      .split at ho'
       .cases ho';simp[VO.am]at hb2
       .unfold bZ;rw[ho'];exact hb2
     .cases hb2
    .refine M.old W hq' (fun hh=> ?_) (fun hh=> ?_)
     .have Q:=N mp ym hym hh.symm;rw[hmp]at Q;have:=hlowf.2.1;rcases Q with Q|Q
      .cases Q
      .omega
     .have Q:=N r O hyr hh.symm;rw[hr]at Q;have:=hlowf.2.2;rcases Q with Q|Q
      .cases Q
      .omega
   split at hd
   .cases hd
   .rename_i hnn;rw[hcz]at rec;refine iE ok hcf sd b hd rec (by simp only[VR];exact⟨_,rfl,by simp[VL,VR]⟩) Hf D R ?_;intro x er' dr' h' cc;have cc':CP P ι s h m o x er' dr' h':=cc.trans H hSt;cases x with
    |normal=>
     exfalso;have C:=cc.1;obtain⟨x',e1,d1,s1⟩:=o;cases x' with
     |normal=>exact hnn _ _ _ hd
     |_=>cases C
    |_=>exact cc'
  .
   have hex:(execOp (ev a'.tmps.toList) {dst:=none,op:= .next (.tmp q) false,type:=ty,pos:= "",after:= #[],guard:=none}).run P w1= .ok (.value (.tuple #[.bool true,e0.key,e0.val])) (kX w2 O.r (.mapIter (some ym.r) since (seen.push e0.born) clock)):=by
    simp only[execOp,hx,aY,hrun,aN,bE]
   rw[hex];have hheap:(kX w2 O.r (.mapIter (some ym.r) since (seen.push e0.born) clock)).heap=w'.heap.setIfInBounds O.r (.mapIter (some ym.r) since (seen.push e0.born) clock):=by
    rcases hw2 with rfl|rfl<;>rw[<-hw1]<;>rfl
   refine⟨?_,by rcases hw2 with rfl|rfl<;>exact⟨rfl,rfl,rfl⟩⟩;rw[hheap];have hmem:e0∈J/\seen.contains e0.born=false:=by
    have A:=vC.1 he0;unfold leftOf at A;rw[Oo]at A;refine⟨A.1,?_⟩;simpa using A.2
   obtain⟨i,hi⟩:=dL (vC.2 hmem.1);obtain⟨x,hxi,hxe⟩:=Z.zBs hi;obtain⟨j,hj,hfj,hsub,herase⟩:=wX (fun j=>V j&&DD j) hxi;simp only[ek]at hfj herase;have hVj:V j=false:=by
    rw[<-hseen j x hj,hxe.2.2];exact hmem.2
   obtain⟨k,v,wb⟩:=x;obtain⟨hr1,y',hr2,hy'⟩:=hround j k v wb hj;have hone:∃y1,jC p self m ro b eb d s r mp es j k v a (x0||c)=some (DD j,y1)/\(a=none\/y1=((x0||c)||YY j)):=by
    cases hacc:(x0||c)with
    |false=>exact⟨_,hr1,.inr (by simp)⟩
    |true=>
     refine⟨_,hr2,?_⟩;rcases hy' with A|A
     .exact .inr (by simp[A])
     .exact .inl A
   obtain⟨y1,hone,hy1⟩:=hone;obtain⟨e1,d1,s1,es2,j2,hrun1,hlow1,hsame,hsameD,hmp1,hget1⟩:=DI hone;obtain⟨x1,C⟩:∃x1:Inf,x1=⟨ym.r,ym.cap,J,clock,e0.born⟩:=⟨_,rfl⟩;obtain⟨ιj,hιj⟩:∃ιj:Io,ιj=ι.put mp x1:=⟨_,rfl⟩;have hιm:ιj mp=some x1:=by rw[hιj];exact Io.dm
   have hιo:∀b,b≠mp->ιj b=ι b:=by intro b N;rw[hιj];unfold Io.put;rw[if_neg N]
   have hgh:Gh ι ιj:=by
    intro b y N;by_cases A:b=mp
    .subst A;rw[hym]at N;cases N;exact⟨x1,hιm,by rw[C],by rw[C]⟩
    .exact⟨y,by rw[hιo b A];exact N,rfl,rfl⟩
   have hgh':Gh ιj ι:=by
    intro b y N;by_cases A:b=mp
    .subst A;rw[hιm]at N;cases N;exact⟨ym,hym,by rw[C],by rw[C]⟩
    .exact⟨y,by rw[<-hιo b A];exact N,rfl,rfl⟩
   obtain⟨sj,hsj⟩:∃sj,sj=dX (dX ⟨s.V,s.nx,1000000000⟩ mp (.tZ es j false)) r (.pick mp):=⟨_,rfl⟩;rw[<-hsj]at hrun1;have hatj:∀b,sj.at b=if b=r then some (.pick mp)else if b=mp then some (.tZ es j false)else s.at b:=by
    intro b;rw[hsj,vR,vR];by_cases A:b=r
    .rw[if_pos ⟨hr16,A⟩,if_pos A]
    .rw[if_neg (fun hh=>A hh.2),if_neg A];by_cases G:b=mp
     .rw[if_pos ⟨hm16,G⟩,if_pos G]
     .rw[if_neg (fun hh=>G hh.2),if_neg G];rfl
   have hnxj:sj.nx=s.nx:=by rw[hsj];unfold dX;rw[fq,fq]
   obtain⟨A,hh1⟩:∃A,A=w'.heap.setIfInBounds O.r (.mapIter (some ym.r) since (seen.push e0.born) clock):=⟨_,rfl⟩;have hyrlt:O.r<w'.heap.size:=bA hit;have g1:∀W,W≠O.r->A[W]? =w'.heap[W]? :=fun W hq'=>by rw[hh1,ib (Ne.symm hq')]
   have g2:A[O.r]? =some (.mapIter (some ym.r) since (seen.push e0.born) clock):=by rw[hh1];simp[hyrlt]
   have gs:A.size=w'.heap.size:=by rw[hh1];simp
   rw[<-hh1];have Hj:Sim P ιj sj A:=by
    refine IE H ham hmp hr hym hyr (x1:=x1) hgh hιo hιm (by rw[C]) hnxj (fun b A G=>by rw[hatj,if_neg G,if_neg A]) (by rw[gs];exact M.size) (fun W A G h3=>by rw[g1 W h3];exact M.old W A G h3) (fun o ho=> ?_) (fun o ho=> ?_) hmr
    .rw[hatj,if_neg hmr,if_pos rfl]at ho;cases ho;refine⟨_,by rw[g1 _ hne];exact hme,?_⟩;refine⟨dW (fun j=>V j&&DD j) es 0,i,e0,?_,?_,⟨⟨(k,v,wb),hj,hxi⟩,hsub⟩,?_,?_,?_⟩
     .rw[C];exact Z.gh hgh
     .rw[C];exact hkb
     .rw[C];simpa using hi
     .rw[C]
     .rw[C];simp
    .rw[hatj,if_pos rfl]at ho;cases ho;refine⟨_,g2,x1,since,seen.push e0.born,hιm,by rw[C],by rw[C];simp⟩
   refine iE ok hcf sd b (v:= .tup [.bool true,k,v]) hrun1 (rec.gh hgh) ?_ Hj (D.gh hgh) (R.gh hgh) ?_
   .simp only[VR];exact⟨_,rfl,VL.mk3 (by simp only[VR]) (VR.gh hgh _ hxe.1) (VR.gh hgh _ hxe.2.1)⟩
   .rintro x3 er3 dr3 h3 ⟨hx3,ι3,c1,c2,c3,c4⟩;obtain rfl:x3= .normal:=hx3;simp only;have hgh3:Gh ι ι3:=by
     intro b y N;obtain⟨y',h4,B,I⟩:=hgh b y N;exact⟨y',c1.sub b y' h4,B,I⟩
    have hkeep3:∀W,W<A.size->W≠ym.r->h3[W]? =A[W]? :=by
     intro W hq' hqm;refine c1.old W hq' fun b y N hy=> .inr ⟨?_,?_⟩
     .have:=(Hj.fresh b y N).1;rw[hnxj]at this;have hl:s.nx<=s1.low:=hlow1;show b<s1.low;omega
     .unfold bZ;rw[hatj];by_cases h4:b=r
      .rw[if_pos h4];rfl
      .rw[if_neg h4];by_cases B:b=mp
       .exfalso;subst B;rw[hιm]at N;cases N;rw[C]at hy;exact hqm hy.symm
       .rw[if_neg B];cases I:s.at b with
        |none=>rfl
        |some o'=>
         have:=MW ham I;cases o'<;>first|rfl|(simp[amO]at this)
    have hmp3:h3[ym.r]? =some (.map (if DD j then J.eraseIdxIfInBounds i else J) clock):=by
     obtain⟨x4,ob4,k1,k2,k3⟩:=c2.obj mp _ hmp1;rw[c1.sub mp x1 hιm]at k1;cases k1;obtain⟨es4,j4,e4,k4,k5,k6,k7,k8,rfl⟩:=k3;rw[C]at k2 k4 k5 k7 k8;simp only at k2 k4 k5 k7 k8;have hji:j4=i:=by
      refine P8 hnod (x:=e4) (y:=e0) (by simpa using k7) hi ?_;exact k8
     rw[hji]at k2;exact k2
    have hV':∀t,(fun t=>V t||t==j) t=true<->V t=true\/t=j:=by intro t;simp
    refine⟨⟨fun t=>V t||t==j,⟨by have:=c1.size;rw[gs]at this;exact fw M.size this,fun W h4 B I=> ?_,⟨seen.push e0.born,clock,?_,hsc,fun t x ht=> ?_⟩,⟨_,hmp3,?_⟩,⟨c||YY j,?_,?_⟩⟩⟩,DL.same hgh3 hsameD D c4,?_⟩
    .rw[hkeep3 W (by rw[gs];exact bv h4 M.size) B,g1 W I];exact M.old W h4 B I
    .rw[hkeep3 O.r (by rw[gs];exact hyrlt) (Ne.symm hne)];exact g2
    .have h4:=hseen t x ht;rw[mD,gL,beq_iff_eq,<-h4,kM,kM,zA];constructor
     .rintro(B|B)
      .exact .inl B
      .refine .inr (born_inj hborn ht hj ?_);rw[B];exact hxe.2.2.symm
     .rintro(B|B)
      .exact .inl B
      .subst B;rw[hj]at ht;cases ht;exact .inr hxe.2.2
    .cases hD:DD j with
     |false=>
      have:dW (fun t=>(fun t=>V t||t==j) t&&DD t) es 0=dW (fun t=>V t&&DD t) es 0:=by
       refine jk fun t ht=> ?_
       by_cases B:t=j
       .subst B;simp[hD]
       .have I:(t==j)=false:=by rw[beq_eq_false_iff_ne];exact B
        simp only[ek,I,yQ]
      rw[this];simpa using Z
     |true=>
      have:dW (fun t=>(fun t=>V t||t==j) t&&DD t) es 0=dW (fun u=>(fun j=>V j&&DD j) u||u==j) es 0:=by
       refine jk fun t ht=> ?_
       by_cases B:t=j
       .subst B;simp[hD]
       .have I:(t==j)=false:=by rw[beq_eq_false_iff_ne];exact B
        simp only[ek,I,yQ]
      rw[this,<-herase];simp only[if_true];rw[pG,<-CG];exact Z.del
    .rw[gL,hc];constructor
     .rintro(⟨t,B,I,Q⟩|B)
      .exact⟨t,B,by simp[I],Q⟩
      .exact⟨j,(aS.1 hj).1,by simp,B⟩
     .rintro⟨t,B,I,Q⟩;rw[gL,beq_iff_eq]at I;rcases I with I|I
      .exact .inl ⟨t,B,I,Q⟩
      .subst I;exact .inr Q
    .refine⟨c3.len,c3.fit,fun x hx=> ?_⟩;rw[nk hfit hx U];split
     .rename_i hax;have B:=BH U hget1 x hax;have I:=iY c3 x;rw[B]at I;rcases hy1 with Q|Q
      .rw[Q]at hax;cases hax
      .rw[Q,Bool.or_assoc]at I;simp only[VR]at I ⊢;exact I
     .rename_i hax;rw[<-Ez hx];rcases uH hsame x hx with B|B
      .rw[B];simp only[VR]
      .have I:=iY c3 x;rw[<-B]at I;have Q:=rec.get x hx;rw[nk hfit hx U,if_neg hax,<-Ez hx]at Q;exact VR.back hgh3 _ Q I
    .have hit3:itS h3 O.r=seen.push e0.born:=by
      unfold itS;rw[hkeep3 O.r (by rw[gs];exact hyrlt) (Ne.symm hne),g2]
     have hit0':itS w'.heap O.r=seen:=by unfold itS;rw[hit]
     rw[hit3,hit0'];refine filter_lt _ _ ?_ (k,v,wb) ?_ ?_ _ (bQ hj)
     .intro x hx;cases hcx:seen.contains x.2.2 with
      |false=>rfl
      |true=>
       have h8:(seen.push e0.born).contains x.2.2=true:=kM.2 (zA.2 (.inl (kM.1 hcx)));rw[h8]at hx;cases hx
     .have:=hseen j _ hj;rw[this,hVj];rfl
     .have B:(k,v,wb).2.2=e0.born:=hxe.2.2;rw[B];simp
 have:=dH hW w' rfl;rw[<-hdf,dA]at this;refine wpIn_mono this ?_;intro x a2 w2 hq2;cases x with
 |normal=>
  obtain⟨⟨⟨V',M'⟩,hd2,hlt⟩,hr2⟩:=hq2;exact⟨⟨V',M',by rw[hd2,hdf],hrest.trans hr2⟩,hlt⟩
 |_=>exact⟨hq2.1,hrest.trans hq2.2⟩
end
end mapl
end Go.Run
namespace Go.Run
open Go Go.Eng
section mapo
variable {P:Program}{p:Pr}{ι:Io}{s s':S}{h:Heap}{m:Fm}{e e':E}{er:Env}{self:ae}{ro:Option Nat}{d:List Nat}{dr:List Deferred}{l:Option Nat}{o:Out}{t:T}
noncomputable def nxK (n:Env->List Deferred->Heap->Prop)(k:aj):aj:=fun x e d h=>match x with| .normal=>n e d h|x=>k x e d h
theorem zT {a b:Code}{k:aj}{er:Env}{dr:List Deferred}{h:Heap}(H:WP l P a (nxK (fun e d h=>WP l P b k e d h) k) er dr h):WP l P (.seq a b) k er dr h:=by
 refine bN fun w C=>wpIn_seq (wpIn_mono (dH H w C) ?_)
 rintro x j B ⟨v,A⟩;cases x with
 |normal=>
  have u:=dH (show WP l P b k j.tmps.toList j.defers B.heap from v) B rfl;rw[dA]at u;exact wpIn_mono u fun x a G q=>⟨q.1,A.trans q.2⟩
 |_=>exact⟨v,A⟩
theorem Im {x y:Ent}(h:TW x y=true):x=y:=by
 unfold TW at h;simp only[aF]at h;obtain⟨a,b,c⟩:=x;obtain⟨j,u,v⟩:=y;simp only at h;rw[jV h.1,jV h.2.1,aC h.2.2]
theorem um:∀{a b:List Ent},wK a b=true->a=b
 |[],[],_=>rfl
 |x::a,y::b,h=>by
  simp only[wK,aF]at h;rw[Im h.1,um h.2]
 |[],_::_,h=>by simp[wK]at h
 |_::_,[],h=>by simp[wK]at h
theorem oL:∀{a b:List T},JG a b=true->a=b
 |[],[],_=>rfl
 |x::a,y::b,h=>by
  simp only[JG,aF]at h;rw[jV h.1,oL h.2]
 |[],_::_,h=>by simp[JG]at h
 |_::_,[],h=>by simp[JG]at h
theorem uK:∀{a b:List T},Mq a b=true->a=b
 |[],[],_=>rfl
 |x::a,y::b,h=>by
  simp only[Mq,aF]at h;rw[EZ h.1,uK h.2]
 |[],_::_,h=>by simp[Mq]at h
 |_::_,[],h=>by simp[Mq]at h
theorem rJ {a b:T}(h:eqV a b=true):a=b:=by
 unfold eqV at h;split at h
 .rename_i f a b g c d;simp only[aF]at h;have u:f=g:=by
   have j:=h.1;unfold Vn at j;split at j
   .rw[aC j]
   .rw[aC j]
   .cases j
  rw[u,uK h.2.1,uK h.2.2]
 .exact jV h
theorem gu:∀{a b:List Nat},iD a b=true->a=b
 |[],[],_=>rfl
 |x::a,y::b,h=>by
  unfold iD at h;split at h
  .rename_i j;rw[aC j,gu h]
  .cases h
 |[],_::_,h=>by simp[iD]at h
 |_::_,[],h=>by simp[iD]at h
theorem CJ {a b:Bool}(h:ZA a b=true):a=b:=by cases a<;>cases b<;>first|rfl|cases h
theorem tu:∀{a b:List (List T)},MQ a b=true->a=b
 |[],[],_=>rfl
 |x::a,y::b,h=>by
  simp only[MQ,aF]at h;rw[oL h.1,tu h.2]
 |[],_::_,h=>by simp[MQ]at h
 |_::_,[],h=>by simp[MQ]at h
theorem ou {a b:VO}(h:KX a b=true):a=b:=by
 unfold KX at h;split at h
 .simp only[aF]at h;rw[aC h.1,tu h.2]
 .simp only[aF]at h;rw[aC h.1,CJ h.2.1,oL h.2.2]
 .simp only[aF]at h;rw[aC h.1,oL h.2]
 .simp only[aF]at h;rw[aC h.1,um h.2]
 .simp only[aF]at h;rw[kI,decide_eq_true_eq]at h;rw[aC h.1,h.2]
 .simp only[aF]at h;rw[aC h.1,aC h.2.1,aC h.2.2.1,gu h.2.2.2]
 .simp only[aF]at h;rw[aC h.1,aC h.2.1,aC h.2.2.1,gu h.2.2.2]
 .rw[CJ h]
 .cases h
theorem wT {a b:Ex}(h:eqX a b=true):a=b:=by
 unfold eqX at h;split at h
 .rfl
 .rfl
 .rw[aC h]
 .rw[aC h]
 .cases h
theorem WG (H:Sim P ι s h)(ha:∀b,bZ s b=false){o J:Out}(hx:J.x=o.x)(hd:J.d=o.d)(he:∀(ι:Io) (er:Env),RE ι m o.e er->RE ι m J.e er)(hn:o.s.nx<=J.s.nx)(hl:J.s.low<=o.s.low)
 (hb:∀b,J.s.at b=none\/J.s.at b=o.s.at b\/(b<o.s.low/\b<s.nx/\J.s.at b=s.at b)) {x:Exit} {er:Env} {dr:List Deferred} {h':Heap} (c:CP P ι s h m o x er dr h'):CP P ι s h m J x er dr h':=by
 obtain⟨O,ι',q1,q2,q3,q4⟩:=c;have old:∀b y,ι b=some y->b<o.s.low->s.at b≠none->h'[y.r]? =h[y.r]? :=fun b y I hlo hne=>
  q1.old y.r (H.fresh b y I).2 fun b' x' O he=>by
   by_cases u:s.at b'=none
   .exact .inl u
   .obtain rfl:=H.inj b' b x' y u hne O I he;exact .inr ⟨hlo,ha _⟩
 have Z:∀b c x y,o.s.at b≠none->c<o.s.low->s.at c≠none->ι c=some y->ι' b=some x->x.r=y.r->b=c:=fun b c x y hb hc W I hx he=>by
  rcases q1.grow b x hx with j|⟨_,j|⟨c',y',C,G,h4,h5⟩⟩
  .have hlb:s.at b≠none:=fun u=>hb (q1.dead b (H.fresh b x j).1 u)
   exact H.inj b c x y hlb W j I he
  .have:=(H.fresh c y I).2;omega
  .have:=H.inj c' c y' y h5 W C I (G.trans he);omega
 have A:∀b,J.s.at b≠none->o.s.at b≠none\/(b<o.s.low/\s.at b≠none/\∃y,ι b=some y):=fun b U=>by
  rcases hb b with j|j|⟨j,_,G⟩
  .exact absurd j U
  .left;rw[<-j];exact U
  .right;rw[G]at U;refine⟨j,U,?_⟩;cases hs:s.at b with
   |none=>exact absurd hs U
   |some v=>obtain⟨y,ob,B,_⟩:=H.obj b v hs;exact⟨y,B⟩
 refine⟨by rw[hx];exact O,ι',⟨q1.sub,fw q1.nx hn,fw hl q1.low,q1.size,fun b hbn u=> ?_,fun b x hx=> ?_,fun b x hx u=> ?_,fun r hr hc=> ?_⟩,⟨fun b x hx=>⟨bv (q2.fresh b x hx).1 hn,(q2.fresh b x hx).2⟩,fun b c x y hjb V hx I he=> ?_,fun b v Q=> ?_⟩,he _ _ q3,by rw[hd];exact q4⟩
 .rcases hb b with j|j|⟨_,_,j⟩
  .exact j
  .rw[j];exact q1.dead b hbn u
  .rw[j];exact u
 .rcases q1.grow b x hx with j|⟨j,C|⟨c,y,C,G,h4,h5⟩⟩
  .exact .inl j
  .exact .inr ⟨j,.inl C⟩
  .exact .inr ⟨j,.inr ⟨c,y,C,G,fw hl h4,h5⟩⟩
 .rcases hb b with j|j|⟨_,_,j⟩
  .unfold bZ at u;rw[j]at u;cases u
  .refine q1.am b x hx ?_;unfold bZ at u ⊢;rw[<-j];exact u
  .unfold bZ at u ⊢;rw[<-j];exact u
 .refine q1.old r hr fun b x hx he=> ?_
  rcases hc b x hx he with j|⟨j,C⟩
  .exact .inl j
  .exact .inr ⟨bv j hl,C⟩
 .rcases A b hjb with j|⟨j,C,x0,G⟩
  .rcases A c V with B|⟨B,R,y0,N⟩
   .exact q2.inj b c x y j B hx I he
   .have:=q1.sub _ _ N;rw[I]at this;cases this;exact Z b c x y j B R N hx he
  .have:=q1.sub _ _ G;rw[hx]at this;cases this;rcases A c V with B|⟨B,R,y0,N⟩
   .exact(Z c b y x B j C G I he.symm).symm
   .have:=q1.sub _ _ N;rw[I]at this;cases this;exact H.inj b c x y C R G N he
 .rcases hb b with j|j|⟨j,C,G⟩
  .rw[j]at Q;cases Q
  .exact q2.obj b v (j▸Q)
  .rw[G]at Q;obtain⟨y,ob,B,R,N⟩:=H.obj b v Q;exact⟨y,ob,q1.sub _ _ B,(old b y B j (by rw[Q];simp)).trans R,OR.mono q1.sub N⟩
theorem Bi {v w:VO}{b:Nat}:∀{L:List Out},IV v L b=some w->w=v/\∀y∈L,y.s.at b=some v
 |[],hm=>by simp only[IV,Option.some.injEq]at hm;exact⟨hm.symm,by simp⟩
 |y::L,hm=>by
  unfold IV at hm;split at hm
  .rename_i u G;split at hm
   .rename_i C;obtain⟨A,B⟩:=Bi hm;refine⟨A,fun z j=> ?_⟩;rcases bP.1 j with rfl|j
    .rw[G,ou C]
    .exact B z j
   .cases hm
  .cases hm
theorem Jb {o:Out}{L:List Out}{nx low:Nat}:∀(n b:Nat) (V:En (Option VO)) (c:Nat),((c<b\/b+n<=c)->(⟨qL o L n b V,nx,low⟩:S).at c=(⟨V,nx,low⟩:S).at c)/\
 (b<=c->c<b+n->(⟨qL o L n b V,nx,low⟩:S).at c=none\/∀y∈o::L,(⟨qL o L n b V,nx,low⟩:S).at c=y.s.at c)
 |0,b,V,c=>⟨fun _=>rfl,fun H G=>by omega⟩
 |n+1,b,V,c=>by
  have big:bn b 16383=false->b<=c->(⟨V,nx,low⟩:S).at c=none:=fun u A=>by
   have:bn c 16383=false:=by
    cases j:bn c 16383 with
    |false=>rfl
    |true=>
     have:=aH.1 j;have G:bn b 16383=true:=aH.2 (by omega);rw[u]at G;cases G
   unfold S.at;rw[aJ,this,if_neg (by decide)]
  have set:∀(w:Option VO),bn b 16383=true->∀c,(⟨En.set (Pa.of 14 b) w V,nx,low⟩:S).at c=if c=b then w else(⟨V,nx,low⟩:S).at c:=fun w u c=>by
   have O:=aH.1 u;unfold S.at;rw[aJ,aJ];by_cases j:c=b
   .subst j;rw[if_pos rfl,if_pos u,En.bT (by omega) (by omega),if_pos rfl]
   .rw[if_neg j];by_cases A:bn c 16383=true
    .have Q:=aH.1 A;rw[if_pos A,if_pos A,En.bT (by omega) (by omega),if_neg (fun e=>j (by first|exact e|exact e.symm))]
    .rw[if_neg A,if_neg A]
  unfold qL;rw[aJ];split
  .rename_i u;have B:∀(w:Option VO),(w=none\/∀y∈o::L,w=y.s.at b)->((c<b\/b+(n+1)<=c)->(⟨qL o L n (cK b) (En.set (Pa.of 14 b) w V),nx,low⟩:S).at c=(⟨V,nx,low⟩:S).at c)/\
    (b<=c->c<b+(n+1)->(⟨qL o L n (cK b) (En.set (Pa.of 14 b) w V),nx,low⟩:S).at c=none\/∀y∈o::L,(⟨qL o L n (cK b) (En.set (Pa.of 14 b) w V),nx,low⟩:S).at c=y.s.at c):=fun w I=>by
    obtain⟨N,U⟩:=Jb (o:=o) (L:=L) (nx:=nx) (low:=low) n (cK b) (En.set (Pa.of 14 b) w V) c;refine⟨fun A=> ?_,fun H G=> ?_⟩
    .rw[N (by omega),set w u,if_neg (by omega)]
    .by_cases j:c=b
     .subst j;rw[N (by omega),set w u,if_pos rfl];exact I
     .exact U (by omega) (by omega)
   split
   .rename_i v R;split
    .rename_i w I;obtain⟨rfl,C⟩:=Bi I;rw[En.aV];refine B _ (.inr fun y J=> ?_);rcases bP.1 J with rfl|J
     .exact R.symm
     .exact(C y J).symm
    .rw[En.aV];exact B none (.inl rfl)
   .rw[En.aV];exact B none (.inl rfl)
  .rename_i u;have u:bn b 16383=false:=Bool.eq_false_iff.2 u;refine⟨fun _=>rfl,fun H _=> .inl (big u H)⟩
theorem Bn {v:T}{t:Nat}:∀{L:List Out},Ng m v L t=true->∀y∈L,v=bu m y.e t
 |[],_,y,j=>by simp at j
 |z::L,hm,y,j=>by
  unfold Ng at hm;split at hm
  .rename_i u;rcases bP.1 j with rfl|j
   .exact rJ u
   .exact Bn hm y j
  .cases hm
theorem CU {o:Out}{L:List Out}{y:Out}(hy:y∈o::L)(re:RE ι m y.e er):∀(n:Nat) (acc:E),n<=m.n->RE ι m acc er->RE ι m (Dq m o L n acc) er
 |0,acc,_,ra=>ra
 |n+1,acc,hn,ra=>by
  unfold Dq;rw[force_eq];split
  .rename_i v;rw[En.aV];refine CU hy re n _ (by omega) ⟨ra.len,ra.fit,fun i u=> ?_⟩;have A:=ra.fit;rw[En.bT (by omega) (by omega)];split
   .rename_i j;subst j;have:bu m o.e i=bu m y.e i:=by
     rcases bP.1 hy with rfl|hy
     .rfl
     .exact Bn v y hy
    rw[this];exact iY re i
   .exact ra.get i u
  .exact CU hy re n acc (by omega) ra
theorem Ho:∀(L:List Out) (a:Nat),pR L a<=a/\∀y∈L,pR L a<=y.s.low
 |[],a=>⟨bi _,by simp⟩
 |o::L,a=>by
  unfold pR;rw[iI];obtain⟨v,u⟩:=Ho L (min o.s.low a);refine⟨by omega,fun y j=> ?_⟩;rcases bP.1 j with rfl|j
  .omega
  .exact u y j
theorem Wo (a b:Nat):Ua a b=max a b:=by
 unfold Ua;split
 .rename_i h;have:=aH.1 h;omega
 .rename_i h;have:¬a<=b:=fun j=>by rw[aH.2 j]at h;cases h
  omega
theorem NV:∀(L:List Out) (a:Nat),a<=Ag L a/\∀y∈L,y.s.nx<=Ag L a
 |[],a=>⟨bi _,by simp⟩
 |o::L,a=>by
  unfold Ag;rw[Wo];obtain⟨v,u⟩:=NV L (max o.s.nx a);refine⟨by omega,fun y j=> ?_⟩;rcases bP.1 j with rfl|j
  .omega
  .exact u y j
theorem mX (H:Sim P ι s h)(ha:∀b,bZ s b=false){o J:Out}{L:List Out}(hm:DT m s o L=some J):∀y∈o::L,∀{x:Exit} {er:Env} {dr:List Deferred} {h':Heap},CP P ι s h m y x er dr h'->CP P ι s h m J x er dr h':=by
 intro y j x er dr h' c;unfold DT at hm;rw[dR,dR,dR,iI]at hm;split at hm
 .rename_i N;simp only[aF,bJ]at N;cases hm;have Q:=Ho (o::L) s.low;have R:=NV (o::L) s.nx;have A:y.x=o.x/\y.d=o.d:=by
   rcases bP.1 j with rfl|j
   .exact⟨rfl,rfl⟩
   .have:=N.2 y j;exact⟨wT this.1,gu this.2⟩
  refine WG H ha (o:=y) (J:=⟨_,Dq m o L m.n (.leaf .any),_,_⟩) A.1.symm A.2.symm (fun ι er B=>CU j B m.n _ (bi _) ⟨B.len,B.fit,fun i hi=>by rw[En.bU];simp only[VR]⟩) (R.2 y j) (Q.2 y j) (fun b=> ?_) c;obtain⟨O,Z⟩:=Jb (o:=o) (L:=L) (nx:=Ag (o::L) s.nx) (low:=pR (o::L) s.low) (yw (Ag (o::L) s.nx) (min (pR (o::L) s.low) s.nx)) (min (pR (o::L) s.low) s.nx) s.V b;have C:∀b,(⟨s.V,Ag (o::L) s.nx,pR (o::L) s.low⟩:S).at b=s.at b:=fun b=>rfl
  have G:yw (Ag (o::L) s.nx) (min (pR (o::L) s.low) s.nx)=Ag (o::L) s.nx-min (pR (o::L) s.low) s.nx:=rfl;have l2:=Q.2 y j;by_cases W:b<min (pR (o::L) s.low) s.nx
  .right;right;have I:=O (.inl W);rw[C]at I;exact⟨by omega,by omega,I⟩
  .by_cases h3:b<Ag (o::L) s.nx
   .rcases Z (by omega) (by rw[G];omega)with u|u
    .exact .inl u
    .exact .inr (.inl (u y j))
   .left;have u:=O (.inr (by rw[G];omega));rw[C]at u;refine u.trans ?_;cases hs:s.at b with
    |none=>rfl
    |some v=>
     obtain⟨z,ob,U,_⟩:=H.obj b v hs;have:=(H.fresh b z U).1;have:=R.1;omega
 .cases hm
theorem D8 {V:En (Option VO)}{nx low b:Nat}(w:Option VO)(hb:bn b 16383=true)(c:Nat):(⟨En.set (Pa.of 14 b) w V,nx,low⟩:S).at c=if c=b then w else(⟨V,nx,low⟩:S).at c:=by
 have v:=aH.1 hb;unfold S.at;rw[aJ,aJ];by_cases j:c=b
 .subst j;rw[if_pos rfl,if_pos hb,En.bT (by omega) (by omega),if_pos rfl]
 .rw[if_neg j];by_cases u:bn c 16383=true
  .have A:=aH.1 u;rw[if_pos u,if_pos u,En.bT (by omega) (by omega),if_neg (fun e=>j (by first|exact e|exact e.symm))]
  .rw[if_neg u,if_neg u]
theorem Wz {s:S}{b c:Nat}(hb:¬bn b 16383=true)(hc:b<=c):s.at c=none:=by
 have:¬bn c 16383=true:=fun h=>hb (aH.2 (by have:=aH.1 h;omega))
 unfold S.at;rw[aJ,if_neg this]
theorem PI {ρ:Nat->Option Nat}{s:S}{nx low:Nat}:∀(n b:Nat) (V:En (Option VO)) (c:Nat),((c<b\/b+n<=c)->(⟨yI ρ s n b V,nx,low⟩:S).at c=(⟨V,nx,low⟩:S).at c)/\
 (b<=c->c<b+n->(⟨yI ρ s n b V,nx,low⟩:S).at c=none\/(⟨yI ρ s n b V,nx,low⟩:S).at c=jr ρ s c)
 |0,b,V,c=>⟨fun _=>rfl,fun A H=>by omega⟩
 |n+1,b,V,c=>by
  unfold yI;rw[aJ];split
  .rename_i u;have j:((c<b\/b+(n+1)<=c)->(⟨yI ρ s n (cK b) (En.set (Pa.of 14 b) (jr ρ s b) V),nx,low⟩:S).at c=(⟨V,nx,low⟩:S).at c)/\
    (b<=c->c<b+(n+1)->(⟨yI ρ s n (cK b) (En.set (Pa.of 14 b) (jr ρ s b) V),nx,low⟩:S).at c=none\/(⟨yI ρ s n (cK b) (En.set (Pa.of 14 b) (jr ρ s b) V),nx,low⟩:S).at c=jr ρ s c):=by
    obtain⟨G,I⟩:=PI (ρ:=ρ) (s:=s) (nx:=nx) (low:=low) n (cK b) (En.set (Pa.of 14 b) (jr ρ s b) V) c;refine⟨fun J=> ?_,fun A H=> ?_⟩
    .rw[G (by omega),D8 _ u,if_neg (by omega)]
    .by_cases B:c=b
     .subst B;right;rw[G (by omega),D8 _ u,if_pos rfl]
     .exact I (by omega) (by omega)
   split
   .rename_i v C;rw[En.aV];rw[C]at j;exact j
   .rename_i C;rw[En.aV];rw[C]at j;exact j
  .rename_i u;exact⟨fun _=>rfl,fun A _=> .inl (Wz u A)⟩
theorem Oc {ρ:Nat->Option Nat}{s:S}{nx low:Nat}:∀(L:List Nat) (k:Nat) (V:En (Option VO)) (c:Nat),((c<k\/k+L.length<=c)->(⟨zJ ρ s L k V,nx,low⟩:S).at c=(⟨V,nx,low⟩:S).at c)/\
 (k<=c->c<k+L.length->(⟨zJ ρ s L k V,nx,low⟩:S).at c=none\/∃b,L[c-k]? =some b/\(⟨zJ ρ s L k V,nx,low⟩:S).at c=jr ρ s b)
 |[],k,V,c=>⟨fun _=>rfl,fun B I=>by simp at I;omega⟩
 |b::L,k,V,c=>by
  unfold zJ;rw[aJ];split
  .rename_i A;have j:((c<k\/k+(b::L).length<=c)->(⟨zJ ρ s L (cK k) (En.set (Pa.of 14 k) (jr ρ s b) V),nx,low⟩:S).at c=(⟨V,nx,low⟩:S).at c)/\
    (k<=c->c<k+(b::L).length->(⟨zJ ρ s L (cK k) (En.set (Pa.of 14 k) (jr ρ s b) V),nx,low⟩:S).at c=none\/∃u,(b::L)[c-k]? =some u/\(⟨zJ ρ s L (cK k) (En.set (Pa.of 14 k) (jr ρ s b) V),nx,low⟩:S).at c=jr ρ s u):=by
    obtain⟨J,O⟩:=Oc (ρ:=ρ) (s:=s) (nx:=nx) (low:=low) L (cK k) (En.set (Pa.of 14 k) (jr ρ s b) V) c;rw[ed];refine⟨fun Q=> ?_,fun B I=> ?_⟩
    .rw[J (by omega),D8 _ A,if_neg (by omega)]
    .by_cases G:c=k
     .subst G;right;refine⟨b,by simp,?_⟩;rw[J (by omega),D8 _ A,if_pos rfl]
     .rcases O (by omega) (by omega)with C|⟨u,C,N⟩
      .exact .inl C
      .refine .inr ⟨u,?_,N⟩;rw[show c-k=(c-cK k)+1 by omega,eP];exact C
   split
   .rename_i v H;rw[En.aV];rw[H]at j;exact j
   .rename_i H;rw[En.aV];rw[H]at j;exact j
  .rename_i A;exact⟨fun _=>rfl,fun B _=> .inl (Wz A B)⟩
theorem FC {b:Nat}:∀{L:List Nat} {k c:Nat},PY b L k=some c->k<=c/\L[c-k]? =some b
 |[],k,c,h=>by simp[PY]at h
 |a::L,k,c,h=>by
  unfold PY at h;split at h
  .rename_i u;cases h;rw[aC u];exact⟨bi _,by simp⟩
  .obtain⟨v,j⟩:=FC h;refine⟨by omega,?_⟩;rw[show c-k=(c-cK k)+1 by omega,eP];exact j
theorem DX {β:Type}:∀(L:List Nat) (k:List Nat->β),Et L k=k L
 |[],k=>rfl
 |a::l,k=>by unfold Et;rw[dR,DX l]
theorem JE {i:Nat}:∀{L:List Nat},qN i L=false->i∉L
 |[],_=>by simp
 |j::r,h=>by
  unfold qN at h;split at h
  .cases h
  .rename_i u;rw[bP,not_or];exact⟨(fun e=>by subst e;rw[lG]at u;cases u),JE h⟩
theorem kQ:∀{L:List Nat},nodupB L=true->L.Nodup
 |[],_=>SF
 |a::l,h=>by
  simp only[nodupB,aF,lh]at h;exact PE.2 ⟨JE h.1,kQ h.2⟩
noncomputable def ioR (ι:Io)(base:Nat)(L:List Nat):Io:=fun c=>if c<base then ι c else match L[c-base]? with|some b=>ι b|none=>none
theorem Wl {ι:Io}{base:Nat}{L:List Nat}{b c:Nat}(h:rho base L b=some c):ioR ι base L c=ι b:=by
 unfold rho at h;split at h
 .rename_i u;cases h;unfold ioR;rw[if_pos (bX.1 u)]
 .obtain⟨v,j⟩:=FC h;unfold ioR;rw[if_neg (by omega),j]
section ren
variable {ι2:Io}{ρ:Nat->Option Nat}(hρ:∀b c,ρ b=some c->ι2 c=ι b)
include hρ
theorem Nv {t:T}{v:Value}(h:VR ι t v):VR ι2 (Vi ρ t) v:=by
 cases t<;>simp only[Vi]<;>first
  |(simp only[VR]at h ⊢;exact h)
  |(simp only[VR];done)
  |(split
    .rename_i c j;simp only[VR]at h ⊢;rw[hρ _ _ j];exact h
    .simp only[VR])
  |skip
theorem BP:∀{ts:List T} {vs:List Value},VL ι ts vs->VL ι2 (Df ρ ts) vs
 |[],vs,h=>by simpa only[VL,Df]using h
 |t::ts,vs,h=>by
  simp only[VL,Df]at *;obtain⟨v,r,j,u,A⟩:=h;exact⟨v,r,j,Nv hρ u,BP A⟩
theorem Oh {t:T}{v:Value}(h:VR ι t v):VR ι2 (Wu ρ t) v:=by
 unfold Wu;split
 .simp only[VR]at h ⊢;obtain⟨vs,j,u⟩:=h;exact⟨vs,j,BP hρ u⟩
 .simp only[VR]at h ⊢;obtain⟨vs,j,u⟩:=h;exact⟨vs,j,BP hρ u⟩
 .exact Nv hρ h
theorem CZ:∀{ts:List T} {vs:List Value},VL ι ts vs->VL ι2 (D7 ρ ts) vs
 |[],vs,h=>by simpa only[VL,D7]using h
 |t::ts,vs,h=>by
  simp only[VL,D7]at *;obtain⟨v,r,j,u,A⟩:=h;exact⟨v,r,j,Oh hρ u,CZ A⟩
theorem vU {t:T}{v:Value}(h:VR ι t v):VR ι2 (IW ρ t) v:=by
 unfold IW;split
 .rename_i f a b;split
  .simp only[VR]at h ⊢;obtain⟨c,d,j,u,A⟩:=h;exact⟨c,d,j,CZ hρ u,CZ hρ A⟩
  .rename_i l;split
   .rename_i c B;simp only[VR]at h ⊢;rw[hρ _ _ B];exact h
   .simp only[VR]
  .simp only[VR]
 .exact Oh hρ h
theorem uY:∀{ts:List T} {vs:List Value},VL ι ts vs->VL ι2 (jv ρ ts) vs
 |[],vs,h=>by simpa only[VL,jv]using h
 |t::ts,vs,h=>by
  simp only[VL,jv,force_eq]at *;obtain⟨v,r,j,u,A⟩:=h;exact⟨v,r,j,vU hρ u,uY A⟩
omit hρ in
theorem nW:∀(ts:List T),(jv ρ ts).length=ts.length
 |[]=>rfl
 |t::ts=>by simp only[jv,force_eq,ed,nW ts]
theorem KC:∀{es:List Ent} {l:List MapEntry},EL ι es l->EL ι2 (D6 ρ es) l
 |[],l,h=>h
 |x::es,l,⟨e,r,h1,h2,h3⟩=>⟨e,r,h1,⟨vU hρ h2.1,vU hρ h2.2.1,h2.2.2⟩,KC h3⟩
omit hρ in
theorem wN:∀(es:List Ent),(D6 ρ es).map (·.2.2)=es.map (·.2.2)
 |[]=>rfl
 |x::es=>by simp only[D6,lT,wN es]
omit hρ in
theorem uL:∀(l:List (List T)),(l.map (jv ρ)).flatten=jv ρ l.flatten
 |[]=>rfl
 |x::l=>by
  have j:∀a b:List T,jv ρ (a++b)=jv ρ a++jv ρ b:=fun a b=>by
   induction a with
   |nil=>rfl
   |cons y a ih=>simp only[qp,jv,force_eq,ih]
  rw[lT,qb,qb,j,uL l]
theorem GR {x:Inf}{o o2:VO}{ob:Obj}(h:wh ρ o=some o2)(H:OR P ι x o ob):OR P ι2 x o2 ob:=by
 unfold wh at h;split at h
 .rename_i cs Q tl;cases h;obtain⟨v,j,u,B,J⟩:=H;have C:=nW (ρ:=ρ) cs;exact⟨v,j,by rw[C];exact u,by rw[C];exact uY hρ B,by rw[C];exact J⟩
 .rename_i cs Q;cases h;obtain⟨v,V,j,u,B⟩:=H;have C:=nW (ρ:=ρ) cs;exact⟨v,V,j,by rw[C];exact u,by rw[C];exact uY hρ B⟩
 .rename_i es c;cases h;obtain⟨I,j,u,B,J⟩:=H;refine⟨I,j,KC hρ u,?_,fun y Z=> ?_⟩
  .rw[wN];exact B
  .have R:y.2.2∈(D6 ρ es).map (·.2.2):=fo.2 ⟨y,Z,rfl⟩;rw[wN]at R;obtain⟨z,hz,O⟩:=fo.1 R;rw[<-O];exact J z hz
 .cases h;exact H
 .rename_i U Q;cases h;obtain⟨G,v,j,u,B,J,W⟩:=H;refine⟨G.map (jv ρ),v,j.map _,u,?_,?_,W⟩
  .rw[uL,nW];exact B
  .rw[uL,nW];exact uY hρ J
 .split at h
  .rename_i q N;cases h;obtain⟨y,j,u⟩:=H;exact⟨y,by rw[hρ _ _ N];exact j,u⟩
  .cases h
 .split at h
  .rename_i q N;cases h;obtain⟨y,A,c,j,u⟩:=H;exact⟨y,A,c,by rw[hρ _ _ N];exact j,u⟩
  .cases h
 .split at h
  .rename_i q N;cases h;obtain⟨y,A,c,j,u⟩:=H;exact⟨y,A,c,by rw[hρ _ _ N];exact j,u⟩
  .cases h
 .cases h
theorem Eo {fg:List Nat}{e:E}(re:RE ι m e er):∀(n:Nat) (acc:E),n<=m.n->RE ι2 m acc er->RE ι2 m (TB m ρ fg e n acc) er
 |0,acc,_,ra=>ra
 |n+1,acc,hn,ra=>by
  unfold TB;split
  .exact Eo re n acc (by omega) ra
  .rw[force_eq,En.aV];refine Eo re n _ (by omega) ⟨ra.len,ra.fit,fun i u=> ?_⟩;have v:=ra.fit;rw[En.bT (by omega) (by omega)];split
   .rename_i j;subst j;exact vU hρ (iY re i)
   .exact ra.get i u
end ren
section
variable {Y:List Out}{clock:Nat}{h':Heap}{i:Nat}{lb:Code}{mg:List Out->Option (List Out)}{mp q r:Nat}{seen:List Nat}{since:Nat}{x:Exit}
theorem NW {ρ:Nat->Option Nat}{o o2:VO}(h:wh ρ o=some o2):o2.am=false:=by
 unfold wh at h;split at h<;>first
  |(cases h;rfl)
  |(split at h
    .cases h;rfl
    .cases h)
  |cases h
theorem Ad {ρ:Nat->Option Nat}{s:S}{b:Nat}{v:VO}(h:jr ρ s b=some v):∃u,s.at b=some u/\wh ρ u=some v:=by
 unfold jr at h;split at h
 .rename_i u j;exact⟨u,j,h⟩
 .cases h
theorem jA (H:Sim P ι s h)(ha:∀b,bZ s b=false){fg:List Nat}{o:Out}(c:CP P ι s h m o x er dr h'):CP P ι s h m (jo m s fg o) x er dr h':=by
 have c0:=c;unfold jo;split
 .rename_i hd;rw[dR];split
  .rw[DX];generalize Vl o.s s.nx 4000 (G5 m fg o.e m.n 0++LG o.s (yw s.nx (dz o.s.low s.nx)) (dz o.s.low s.nx)) []=L;split
   .rename_i hc;rw[dR];simp only[aF,bJ]at hc;have hnd:=kQ hc.1;have Z:∀b∈L,s.nx<=b:=fun b hb=>aH.1 (hc.2 b hb)
    have hmin:dz o.s.low s.nx=min o.s.low s.nx:=iI _ _;rw[hmin];obtain⟨hx',ι',q1,q2,q3,q4⟩:=c;have hρ:∀b c,rho s.nx L b=some c->ioR ι' s.nx L c=ι' b:=fun b c h=>Wl h
    generalize hρe:rho s.nx L=ρ at hρ;have U:∀c v,(⟨zJ ρ o.s L s.nx (yI ρ o.s (yw s.nx (min o.s.low s.nx)) (min o.s.low s.nx) s.V),s.nx+L.length,o.s.low⟩:S).at c=some v->
     (c<s.nx/\((c<o.s.low/\s.at c=some v)\/∃u,o.s.at c=some u/\wh ρ u=some v))\/(s.nx<=c/\∃b u,L[c-s.nx]? =some b/\o.s.at b=some u/\wh ρ u=some v):=fun c v B=>by
     obtain⟨i1,i2⟩:=Oc (ρ:=ρ) (s:=o.s) (nx:=s.nx+L.length) (low:=o.s.low) L s.nx (yI ρ o.s (yw s.nx (min o.s.low s.nx)) (min o.s.low s.nx) s.V) c;obtain⟨j1,j2⟩:=PI (ρ:=ρ) (s:=o.s) (nx:=s.nx+L.length) (low:=o.s.low) (yw s.nx (min o.s.low s.nx)) (min o.s.low s.nx) s.V c;have e2:yw s.nx (min o.s.low s.nx)=s.nx-min o.s.low s.nx:=rfl;have e0:(⟨s.V,s.nx+L.length,o.s.low⟩:S).at c=s.at c:=rfl;by_cases G:c<s.nx
     .left;refine⟨G,?_⟩;rw[i1 (.inl G)]at B;by_cases N:c<min o.s.low s.nx
      .rw[j1 (.inl N),e0]at B;exact .inl ⟨by omega,B⟩
      .rcases j2 (by omega) (by rw[e2];omega)with j|j
       .rw[j]at B;cases B
       .rw[j]at B;exact .inr (Ad B)
     .by_cases N:c<s.nx+L.length
      .right;rcases i2 (by omega) N with j|⟨b,j,h4⟩
       .rw[j]at B;cases B
       .rw[h4]at B;obtain⟨u,h5,h6⟩:=Ad B;exact⟨by omega,b,u,j,h5,h6⟩
      .exfalso;rw[i1 (.inr (by omega)),j1 (.inr (by rw[e2];omega)),e0]at B;obtain⟨y,ob,J,_⟩:=H.obj c v B;have:=(H.fresh c y J).1;omega
    generalize hS:(⟨zJ ρ o.s L s.nx (yI ρ o.s (yw s.nx (min o.s.low s.nx)) (min o.s.low s.nx) s.V),s.nx+L.length,o.s.low⟩:S)=S2 at U;have hnx:S2.nx=s.nx+L.length:=by rw[<-hS]
    have hlow:S2.low=o.s.low:=by rw[<-hS]
    have old:∀b y,ι b=some y->b<o.s.low->s.at b≠none->h'[y.r]? =h[y.r]? :=fun b y A hlo hne=>
     q1.old y.r (H.fresh b y A).2 fun b' x' hx' he=>by
      by_cases C:s.at b'=none
      .exact .inl C
      .obtain rfl:=H.inj b' b x' y C hne hx' A he;exact .inr ⟨hlo,ha _⟩
    have mix:∀b c x y,o.s.at b≠none->c<o.s.low->s.at c≠none->ι c=some y->ι' b=some x->x.r=y.r->b=c:=fun b c x y hb hc hlc A hx he=>by
     rcases q1.grow b x hx with G|⟨_,G|⟨c',y',N,j,h4,h5⟩⟩
     .have hlb:s.at b≠none:=fun C=>hb (q1.dead b (H.fresh b x G).1 C)
      exact H.inj b c x y hlb hlc G A he
     .have:=(H.fresh c y A).2;omega
     .have:=H.inj c' c y' y h5 hlc N A (j.trans he);omega
    have pre:∀c x,S2.at c≠none->ioR ι' s.nx L c=some x->(∃b,ι' b=some x/\o.s.at b≠none/\((c<s.nx/\b=c)\/(s.nx<=c/\L[c-s.nx]? =some b)))\/(c<o.s.low/\c<s.nx/\s.at c≠none/\ι c=some x):=fun c x hc hx=>by
     cases B:S2.at c with
     |none=>exact absurd B hc
     |some v=>
      unfold ioR at hx;rcases U c v B with⟨G,⟨N,j⟩|⟨u,j,_⟩⟩|⟨G,b,u,N,j,_⟩
      .rw[if_pos G]at hx;right;refine⟨N,G,by rw[j];simp,?_⟩;obtain⟨y,ob,J,_⟩:=H.obj c v j;have:=q1.sub _ _ J;rw[hx]at this;cases this;exact J
      .rw[if_pos G]at hx;exact .inl ⟨c,hx,by rw[j];simp,.inl ⟨G,rfl⟩⟩
      .rw[if_neg (by omega),N]at hx;exact .inl ⟨b,hx,by rw[j];simp,.inr ⟨G,N⟩⟩
    refine⟨hx',ioR ι' s.nx L,⟨fun b y A=> ?_,by rw[hnx];omega,by rw[hlow];exact q1.low,q1.size,fun b hbn C=> ?_,fun b y A=> ?_,fun b y A C=> ?_,fun r hr hcc=>q1.old r hr (by rw[hlow]at hcc;exact hcc)⟩,⟨fun b y A=> ?_,fun b c y z hb hc A C he=> ?_,fun c v B=> ?_⟩,?_,by rw[hd]at q4;exact q4⟩
    .unfold ioR;rw[if_pos (H.fresh b y A).1];exact q1.sub _ _ A
    .cases B:S2.at b with
     |none=>rfl
     |some v=>
      rcases U b v B with⟨_,⟨_,j⟩|⟨u,j,_⟩⟩|⟨G,_⟩
      .rw[C]at j;cases j
      .rw[q1.dead b hbn C]at j;cases j
      .omega
    .unfold ioR at A;split at A
     .rename_i hb;rcases q1.grow b y A with G|⟨G,_⟩
      .exact .inl G
      .omega
     .rename_i hb;split at A
      .rename_i b' hb';rcases q1.grow b' y A with G|⟨G,N⟩
       .have:=(H.fresh b' y G).1;have:=Z b' (bQ hb');omega
       .rw[hlow];exact .inr ⟨by omega,N⟩
      .cases A
    .unfold bZ at C;cases B:S2.at b with
     |none=>rw[B]at C;cases C
     |some v=>
      rw[B]at C;rcases U b v B with⟨_,⟨_,j⟩|⟨u,_,j⟩⟩|⟨_,b',u,_,_,j⟩
      .unfold bZ;rw[j];exact C
      .have C:v.am=true:=C;rw[NW j]at C;cases C
      .have C:v.am=true:=C;rw[NW j]at C;cases C
    .rw[hnx];unfold ioR at A;split at A
     .rename_i hb;exact⟨by omega,(q2.fresh b y A).2⟩
     .split at A
      .rename_i hb b' hb';have:=(aS.1 hb').1;exact⟨by omega,(q2.fresh b' y A).2⟩
      .cases A
    .rcases pre b y hb A with⟨b1,f1,f2,f3⟩|⟨f1,f2,f3,Q⟩
     .rcases pre c z hc C with⟨c1,J,R,I⟩|⟨J,R,I,O⟩
      .have W:=q2.inj b1 c1 y z f2 R f1 J he;subst W;rcases f3 with⟨f3,Q⟩|⟨f3,Q⟩
       .rcases I with⟨I,O⟩|⟨I,O⟩
        .rw[<-Q,<-O]
        .have:=Z b1 (bQ O);omega
       .rcases I with⟨I,O⟩|⟨I,O⟩
        .have:=Z b1 (bQ Q);omega
        .have hlen:=(aS.1 Q).1;have:=(zP hlen hnd).1 (Q.trans O.symm);omega
      .have W:=mix b1 c y z f2 J I O f1 he;subst W;rcases f3 with⟨_,Q⟩|⟨f3,Q⟩
       .exact Q.symm
       .have:=Z b1 (bQ Q);omega
     .rcases pre c z hc C with⟨c1,J,R,I⟩|⟨J,R,I,O⟩
      .have W:=mix c1 b z y R f1 f3 Q J he.symm;subst W;rcases I with⟨_,O⟩|⟨I,O⟩
       .exact O
       .have:=Z c1 (bQ O);omega
      .exact H.inj b c y z f3 I Q O he
    .rcases U c v B with⟨G,⟨N,j⟩|⟨u,j,h4⟩⟩|⟨G,b,u,N,j,h4⟩
     .obtain⟨y,ob,J,R,I⟩:=H.obj c v j;have hsub:Sub ι (ioR ι' s.nx L):=fun b y A=>by
       unfold ioR;rw[if_pos (H.fresh b y A).1];exact q1.sub _ _ A
      exact⟨y,ob,hsub _ _ J,(old c y J N (by rw[j];simp)).trans R,OR.mono hsub I⟩
     .obtain⟨y,ob,J,R,I⟩:=q2.obj c u j;refine⟨y,ob,?_,R,GR hρ h4 I⟩;unfold ioR;rw[if_pos G];exact J
     .obtain⟨y,ob,J,R,I⟩:=q2.obj b u j;refine⟨y,ob,?_,R,GR hρ h4 I⟩;unfold ioR;rw[if_neg (by omega),N];exact J
    .exact Eo hρ q3 m.n _ (bi _) ⟨q3.len,q3.fit,fun i hi=>by rw[En.bU];simp only[VR]⟩
   .exact c0
  .exact c0
 .exact c0
theorem IR (f:Nat->Bool)(x:Nat):∀l:List Nat,(Tn x l).any f=(f x||l.any f)
 |[]=>by simp[Tn]
 |y::l=>by
  unfold Tn;split
  .simp
  .simp only[TY,IR f x l];cases f x<;>cases f y<;>simp
theorem EC (f:Nat->Bool):∀l:List Nat,(Nf l).any f=l.any f
 |[]=>rfl
 |x::l=>by unfold Nf;rw[IR,EC f l];simp
theorem Rq {arr:Array Nat}(hk:Lg since seen arr):Lg since (Bu since seen) arr:=by
 refine⟨fun w u=> ?_,fun w u A=> ?_⟩
 .rw[hk.1 w u];unfold Bu;rw[xJ,EC,mD];simp only[gL,wF,dM,mJ];constructor
  .rintro⟨b,v,j⟩;have:=aC j;exact .inl ⟨b,⟨v,bX.2 (by omega)⟩,j⟩
  .rintro(⟨b,⟨v,_⟩,j⟩|⟨b,rfl,j⟩)
   .exact⟨b,v,j⟩
   .have:=aC j;omega
 .unfold Bu at u;rw[IB]at u;cases u;omega
theorem N9 {o:Out}{v0 v1:VO}(hr:o.s.at r=some v0)(ham:v1.am=true->v0.am=true)(hOR:∀(ι:Io) (x:Inf) (ob:Obj),OR P ι x v0 ob->OR P ι x v1 ob)(c:CP P ι s h m o x er dr h'):CP P ι s h m ⟨o.x,o.e,o.d,dX o.s r v1⟩ x er dr h':=by
 obtain⟨W,ι',q1,q2,q3,q4⟩:=c;have N:r<=16383:=by
  unfold S.at at hr;rw[aJ]at hr;split at hr
  .rename_i B;exact aH.1 B
  .cases hr
 have I:=vR o.s r;have same:∀b,b≠r->(dX o.s r v1).at b=o.s.at b:=fun b B=>by rw[I,if_neg (fun hh=>B hh.2)]
 have H:(dX o.s r v1).at r=some v1:=by rw[I,if_pos ⟨N,rfl⟩]
 have J:(dX o.s r v1).nx=o.s.nx:=by unfold dX bG;rw[aJ];split<;>simp[En.aV]
 have C:(dX o.s r v1).low=o.s.low:=by unfold dX bG;rw[aJ];split<;>simp[En.aV]
 have A:∀b,(dX o.s r v1).at b≠none->o.s.at b≠none:=fun b B=>by
  by_cases j:b=r
  .subst j;rw[hr];simp
  .rwa[same b j]at B
 refine⟨W,ι',⟨q1.sub,by simp only[J];exact q1.nx,by simp only[C];exact q1.low,q1.size,fun b U u=> ?_,fun b y O=>by simp only[C];exact q1.grow b y O,fun b y O u=> ?_,fun r' V Q=>q1.old r' V (by simp only[C]at Q;exact Q)⟩,⟨fun b y O=>by simp only[J];exact q2.fresh b y O,fun b c y z B Q=>q2.inj b c y z (A b B) (A c Q),fun b v G=> ?_⟩,q3,q4⟩
 .have R:=q1.dead b U u;have j:b≠r:=fun e=>by subst e;rw[hr]at R;cases R
  show(dX o.s r v1).at b=none;rw[same b j];exact R
 .have u:bZ (dX o.s r v1) b=true:=u;refine q1.am b y O ?_;by_cases j:b=r
  .subst j;unfold bZ at u ⊢;rw[H]at u;rw[hr];exact ham u
  .unfold bZ at u ⊢;rw[same b j]at u;exact u
 .have G:(dX o.s r v1).at b=some v:=G;by_cases j:b=r
  .subst j;rw[H]at G;cases G;obtain⟨y,ob,Z,g2,g3⟩:=q2.obj b _ hr;exact⟨y,ob,Z,g2,hOR ι' y ob g3⟩
  .rw[same b j]at G;exact q2.obj b v G
theorem wB {o:Out}(c:CP P ι s h m o x er dr h'):CP P ι s h m (wR r o) x er dr h':=by
 unfold wR TL;split
 .rename_i mp since seen j J;split
  .rename_i v;have v:=bX.1 v;refine N9 (v0:= .iG mp since seen j) (v1:= .iG mp since (Bu since seen) 0) J (fun h=>(by cases h)) (fun ι y Q I=> ?_) c;obtain⟨z,u,A,B,C,G,H,N⟩:=I;exact⟨z,u,A,B,C,Rq G,H,fun O=>by omega⟩
  .exact c
 .exact c
theorem De (x:List T):∀l:List (List T),List.Perm (Ux x l) (x::l)
 |[]=>List.Perm.refl _
 |y::l=>by
  unfold Ux;split
  .exact((De x l).cons y).trans (List.Perm.swap x y l)
  .exact List.Perm.refl _
theorem tX:∀l:List (List T),List.Perm (KQ l) l
 |[]=>List.Perm.refl _
 |x::l=>(De x (KQ l)).trans ((tX l).cons x)
theorem yu (k:Nat):∀(n:Nat) (l:List T),l.length=n*k->(C8 k n l).flatten=l
 |0,l,h=>by
  have:l=[]:=eQ.1 (by omega);subst this;rfl
 |n+1,l,h=>by
  unfold C8;rw[qb,yu k n (l.drop k) (by rw[List.length_drop,h,Nat.add_mul,Nat.one_mul];omega)];exact qM k l
theorem Sb {v w:VO}{n:Nat}(h:Sj v n=some w):(w.am=true->v.am=true)/\∀(ι:Io) (x:Inf) (ob:Obj),OR P ι x v ob->OR P ι x w ob:=by
 unfold Sj at h;split at h
 .rename_i cs H;split at h
  .rename_i C;simp only[aF]at C;cases h;refine⟨fun h=>(by cases h),fun ι x ob ⟨j,A,B,J,_,N⟩=> ?_⟩;have O:cs.length=n*KN cs.length n:=(aC C.2).symm;have G:=yu (KN cs.length n) n cs O;obtain⟨Q,R,U⟩:=N rfl;exact⟨C8 (KN cs.length n) n cs,j,(tX _).symm,A,by rw[G];exact B,by rw[G];exact J,Q,R,U⟩
  .cases h
 .rename_i I H;cases h;exact⟨fun h=>(by cases h),fun ι x ob ⟨u,j,A,B⟩=>⟨u,j,A.trans (tX _).symm,B⟩⟩
 .cases h
theorem lJ {x:Exit}{h':Heap}:∀{ts:List Tmp} {o:Out},CP P ι s h m o x er dr h'->CP P ι s h m (JR m ts o) x er dr h'
 |[],o,c=>c
 |t::ts,o,c=>by
  unfold JR;split
  .split
   .rename_i v A;split
    .rename_i w B;rw[qw];obtain⟨j,u⟩:=Sb (P:=P) B;exact lJ (N9 A j u c)
    .exact lJ c
   .exact lJ c
  .exact lJ c
theorem om (H:Sim P ι s h)(ha:∀b,bZ s b=false){r:Nat}:∀{k:Nat} {L M:List Out},xY m s r k L=some M->∀o∈L,∃J∈M,∀(x:Exit) (er:Env) (dr:List Deferred) (h':Heap),CP P ι s h m o x er dr h'->CP P ι s h m J x er dr h'
 |k,[],M,_,o,u=>by simp at u
 |0,_::_,M,hm,o,u=>by simp[xY]at hm
 |k+1,z::L,M,hm,o,u=>by
  unfold xY at hm;split at hm
  .rename_i J N C G;cases hm;have j:o∈z::(L.filter fun y=>iD (seenAt y.s r) (seenAt z.s r))\/o∈L.filter fun y=> !(iD (seenAt y.s r) (seenAt z.s r)):=by
    rcases bP.1 u with rfl|u
    .left;simp
    .cases hq:iD (seenAt o.s r) (seenAt z.s r)with
     |true=>left;simp[dM,u,hq]
     |false=>right;simp[dM,u,hq]
   rcases j with j|j
   .exact⟨J,by simp,fun x er dr h' c=>mX H ha C o j c⟩
   .obtain⟨v,A,B⟩:=om H ha G o j;exact⟨v,by simp[A],B⟩
  .cases hm
theorem Em (H:Sim P ι s h)(ha:∀b,bZ s b=false){fg:List Nat}{L M:List Out}(hm:mergeD m s fg r L=some M):∀o∈L,∃J∈M,∀(x:Exit) (er:Env) (dr:List Deferred) (h':Heap),CP P ι s h m o x er dr h'->CP P ι s h m J x er dr h':=by
 intro o v;obtain⟨J,j,u⟩:=om H ha hm (jo m s fg (wR r o)) (fo.2 ⟨o,v,rfl⟩);exact⟨J,j,fun x er dr h' c=>u x er dr h' (jA H ha (wB c))⟩
theorem FB (H:Sim P ι s h)(ha:∀b,bZ s b=false){L M:List Out}(hm:Sl m s lb r L=some M):∀o∈L,∃J∈M,∀(x:Exit) (er:Env) (dr:List Deferred) (h':Heap),CP P ι s h m o x er dr h'->CP P ι s h m J x er dr h':=by
 intro o v;obtain⟨J,j,u⟩:=om H ha hm (jo m s (kF lb) (JR m (uk lb) (wR r o))) (fo.2 ⟨o,v,rfl⟩);exact⟨J,j,fun x er dr h' c=>u x er dr h' (jA H ha (lJ (wB c)))⟩
theorem uG (re:RE ι m e er)(H:Sim P ι s h){cs:List Ent}(hq:bu m e q= .ptr r 0)(hc:mr s r=some (cs,mp,since,seen,clock)){ty:TypeId}{Q:Value->Heap->Prop}(H0:cs=[]->Q (.tuple #[.bool false]) h)(H1:∀c∈cs,∀v h1,Post P ι s h (.tup [.bool true,c.1,c.2.1]) (gI s r (.iG mp since (seen++[c.2.2]) clock)) v h1->Q v h1):aI P (.next (.tmp q) false) ty er h Q:=by
 have I:opd m e (.tmp q)=some (.ptr r 0):=by rw[<-hq];rfl
 replace I:=ai re I
 simp only[VR]at I;obtain⟨y,hy,I⟩:=I;have key:∃es z u c0 o0,s.at r=some o0/\s.at mp=some (.map es clock)/\since<=clock/\(∀x∈es,x.2.2<since)/\cs=es.filter (fun e=> !(seen.any fun b=>aX b e.2.2))/\ι mp=some z/\h[y.r]? =some (.mapIter (some z.r) since u c0)/\since<=c0/\∀w,w<since->u.contains w=seen.any fun b=>aX b w:=by
  unfold mr at hc;split at hc
  .rename_i mp' Z seen' last hr;split at hc
   .rename_i es U J;split at hc
    .rename_i R;simp only[aF,bJ]at R;cases hc;obtain⟨y',ob,g1,g2,z,g3,rfl⟩:=H.obj r _ hr;rw[hy]at g1;cases g1;exact⟨es,z,_,_,_,hr,J,aH.1 R.2.1,fun x I=>bX.1 (R.2.2 x I),rfl,g3,g2,aH.1 R.1,fun w _=>seen_eq _ w⟩
    .cases hc
   .cases hc
  .rename_i mp' Z seen' last hr;split at hc
   .rename_i es U J;split at hc
    .rename_i R;simp only[aF,bJ]at R;cases hc;obtain⟨y',ob,g1,g2,z,u,c0,g3,rfl,g5,g6,g7⟩:=H.obj r _ hr;rw[hy]at g1;cases g1;exact⟨es,z,_,_,_,hr,J,aH.1 R.1,fun x I=>bX.1 (R.2 x I),rfl,g3,g2,g6,g5.1⟩
    .cases hc
   .cases hc
  .cases hc
 obtain⟨es,z,u,c0,o0,hr,J,hcb,hlt,rfl,hz,hit,hsc,A⟩:=key;obtain⟨C,h1,h2,h3⟩:=jN H J hz;have N:∀x∈C.toList,x.born<since:=fun x I=>by
  obtain⟨q,h4,h5⟩:=h2.mem I;have:=hlt q h4;have h6:q.2.2=x.born:=h5.2.2;omega
 refine rC rfl fun W hW=> ?_
 subst hW;rcases run_next_at (P:=P) W ty y.r z.r since c0 u C clock hit h1 N hsc with⟨hz0,O⟩|⟨B,he,w1,hw1,O⟩
 .refine⟨_,W,by simp[execOp,I,O],Eng.Rest.refl W,H0 ?_⟩;rw[List.filter_eq_nil_iff];intro x hxm V;obtain⟨j,hj⟩:=dL hxm;obtain⟨B,c1,c2⟩:=h2.get hj;have h6:x.2.2=B.born:=c2.2.2;have G:B∈(leftOf C u).toList:=by
   unfold leftOf;rw[ql,dM];refine⟨bQ c1,?_⟩;rw[A _ (N B (bQ c1)),<-h6];exact V
  have:0<(leftOf C u).toList.length:=CF G;rw[dC]at this;omega
 .have he':=he;unfold leftOf at he';rw[ql,dM]at he';obtain⟨G,V⟩:=he';obtain⟨c,h4,h5⟩:=h2.mem G;have h6:c.2.2=B.born:=h5.2.2;rw[A _ (N B G),<-h6]at V;have hcs:c∈es.filter (fun e=> !(seen.any fun b=>aX b e.2.2)):=dM.2 ⟨h4,V⟩;refine⟨.tuple #[.bool true,B.key,B.val],kX w1 y.r (.mapIter (some z.r) since (u.push B.born) clock),by simp only[execOp,I,aY,O,aN,bE],?_,H1 c hcs _ _ ?_⟩
  .rcases hw1 with rfl|rfl<;>exact⟨rfl,rfl,rfl⟩
  .have hpost:Post P ι s W.heap (.tup [.bool true,c.1,c.2.1]) (gI s r (.iG mp since (seen++[c.2.2]) clock)) (.tuple #[.bool true,B.key,B.val]) (W.heap.setIfInBounds y.r (.mapIter (some z.r) since (u.push B.born) clock)):=by
    refine gW H hr hy (o:= .iG mp since (seen++[c.2.2]) clock) ⟨z,_,_,hz,rfl,⟨fun w hw=> ?_,fun w hw _=> ?_⟩,hcb,fun _=>rfl⟩ ?_
    .have R:∀a b:Nat,aX a b=true<->a=b:=fun a b=>⟨aC,fun e=>by subst e;exact lG _⟩
     rw[mD];simp only[kM,zA,xJ,gL,<-A w hw,TY,List.any_nil,yQ,h6,R];exact or_congr Iff.rfl eq_comm
    .rw[IB]at hw;cases hw;simp[h6]
    .simp only[VR];exact⟨_,rfl,VL.mk3 (by simp only[VR]) h5.1 h5.2.1⟩
   have hh:(kX w1 y.r (.mapIter (some z.r) since (u.push B.born) clock)).heap=W.heap.setIfInBounds y.r (.mapIter (some z.r) since (u.push B.born) clock):=by rcases hw1 with rfl|rfl<;>rfl
   rw[hh];exact hpost
theorem C9 {q r mp since clock:Nat}{seen:List Nat}{b:Code}:∀{cs:List Ent} {outs:List Out},G6 p self m ro b e d s r mp since seen clock cs= .ok outs->∀c∈cs,∃o∈outs,bY p self m ro (.tup [.bool true,c.1,c.2.1]) b e d (gI s r (.iG mp since (seen++[c.2.2]) clock))= .ok o
 |[],outs,_,c,j=>by simp at j
 |c0::cs,outs,hd,c,j=>by
  unfold G6 at hd;split at hd
  .rename_i C A;split at hd
   .rename_i H B;cases hd;rcases bP.1 j with rfl|j
    .exact⟨C,by simp,A⟩
    .obtain⟨G,u,v⟩:=C9 (q:=q) B c j;exact⟨G,by simp[u],v⟩
   .cases hd
  .cases hd
theorem KI (ok:Ok P p)(hcf:iN P (iJ p self))(sd:Snd P self){q:Tmp}{b:Code}{outs:List Out}(hn:bq b=some q)(hd:Eb p self m ro q b e d s= .ok outs)(re:RE ι m e er)(H:Sim P ι s h)(D:DL ι d dr)(R:RO ι ro l):
 WP l P b (fun x er dr h'=>∃y∈outs,CP P ι s h m y x er dr h') er dr h:=by
 refine uW b hn fun ty=> ?_
 unfold Eb at hd;split at hd
 .rename_i r I;split at hd
  .rename_i cs mp since seen clock G;split at hd
   .split at hd
    .rename_i C U;cases hd;refine uG re H I G (fun _=> ?_) (fun c j=>by simp at j);exact iE ok hcf sd b U re (by simp only[VR];exact⟨_,rfl,by simp[VL,VR]⟩) H D R (fun x B A h' c=>⟨C,by simp,c⟩)
    .cases hd
   .refine uG re H I G (fun N=>by simp at N) (fun c j v V Q=> ?_);obtain⟨W,q1,q2,q3⟩:=Q;obtain⟨C,O,u⟩:=C9 (q:=q) hd c j;exact iE ok hcf sd b u (re.mono q1.sub) q3 q2 (D.mono q1.sub) (R.mono q1.sub) (fun x B A h' J=>⟨C,O,J.trans H q1⟩)
  .cases hd
 .cases hd
theorem yX {f:Out->Res (List Out)}:∀{L outs:List Out},zg f L= .ok outs->∀o∈L,∃l,f o= .ok l/\∀y∈l,y∈outs
 |[],outs,_,o,j=>by simp at j
 |z::L,outs,hd,o,j=>by
  unfold zg at hd;split at hd
  .rename_i G B;split at hd
   .rename_i I C;cases hd;rcases bP.1 j with rfl|j
    .exact⟨G,B,fun y u=>by simp[u]⟩
    .obtain⟨H,v,A⟩:=yX C o j;exact⟨H,v,fun y u=>by simp[A y u]⟩
   .cases hd
  .cases hd
theorem iO {F:Fence}{b:Code}{Q Q':Exit->Act->World->Prop}(hq:∀x a w,Q x a w->Q' x a w):∀(k:Nat) (a:Act) (w:World),ol F 0 P b Q k a w->ol F 0 P b Q' k a w
 |0,a,w,hh=>hh.elim
 |k+1,a,w,hh=>by
  rw[roundsIn_succ]at hh ⊢;refine wpIn_mono hh ?_;intro x a u j;cases x with
  |normal=>exact iO hq k _ _ j
  |_=>exact hq _ _ _ j
theorem nS (o:Out):mf o=true<->o.x= .normal:=by
 unfold mf;split
 .rename_i h;simp[h]
 .rename_i h;simp;exact h
theorem tN {x:Ex}(h:Exit.normal=exR x):x= .normal:=by cases x<;>first|rfl|cases h
theorem tO {b:Code}{f:Out->Res (List Out)}(hf:∀{ι:Io} {er:Env} {dr:List Deferred} {h:Heap} {o:Out} {outs:List Out},f o= .ok outs->RE ι m o.e er->Sim P ι o.s h->DL ι o.d dr->RO ι ro l->WP l P b (fun x er dr h'=>∃y∈outs,CP P ι o.s h m y x er dr h') er dr h){mg:List Out->Option (List Out)}(H:Sim P ι s h)
 (hmg:∀N M,mg N=some M->∀o∈N,∃J∈M,∀(x:Exit) (er:Env) (dr:List Deferred) (h':Heap),CP P ι s h m o x er dr h'->CP P ι s h m J x er dr h') (R:RO ι ro l):
 ∀(n:Nat) (L Y:List Out),yM f mg n L= .ok Y->∀o∈L,∀(er:Env) (dr:List Deferred) (h1:Heap),CP P ι s h m o .normal er dr h1->∀w:World,w.heap=h1->
  ol (fen l) 0 P b (fun x a w'=>(∃y∈Y,CP P ι s h m y x a.tmps.toList a.defers w'.heap)/\Eng.Rest w w') n ⟨er.toArray,dr⟩ w
 |0,L,Y,hd,o,ho,er,dr,h1,c,w,hw=>by cases hd
 |n+1,L,Y,hd,o,ho,er,dr,h1,c,w,hw=>by
  unfold yM at hd;split at hd
  .rename_i outs A;obtain⟨l1,Q,B⟩:=yX A o ho;obtain⟨hx,ι1,q1,q2,q3,q4⟩:=c;subst hw;have V:=hf Q q3 q2 q4 (R.mono q1.sub);rw[roundsIn_succ];refine wpIn_mono (dH V w rfl) ?_;rintro x a' w' ⟨⟨y,hy,v⟩,Z⟩;have v:=v.trans H q1;have C:=B y hy;have u:x≠.normal->y∈outs.filter fun o=> !(mf o):=fun W=>by
    rw[dM];refine⟨C,?_⟩;cases hq:mf y with
    |false=>rfl
    |true=>
     exfalso;have:=v.1;rw[(nS y).1 hq]at this;exact W this
   cases x with
   |normal=>
    have j:y∈outs.filter mf:=dM.2 ⟨C,(nS y).2 (tN v.1)⟩;split at hd
    .rename_i U;obtain⟨J,G,_⟩:=hmg _ _ U y j;simp at G
    .rename_i N hne U;obtain⟨J,G,I⟩:=hmg _ _ U y j;split at hd
     .rename_i Y' O;cases hd;have:=tO hf H hmg R n N Y' O J G _ _ _ (I _ _ _ _ v) w' rfl;rw[dA]at this;exact iO (fun x a w3 ⟨⟨y,h1,h2⟩,h3⟩=>⟨⟨y,by simp[h1],h2⟩,Z.trans h3⟩) _ _ _ this
     .cases hd
    .cases hd
   |_=>
    have j:=u (by simp);refine⟨?_,Z⟩;split at hd
    .cases hd;exact⟨y,j,v⟩
    .split at hd
     .cases hd;exact⟨y,by rw[sW];exact .inl j,v⟩
     .cases hd
    .cases hd
  .cases hd
theorem Ph (ok:Ok P p)(hcf:iN P (iJ p self))(sd:Snd P self){q:Tmp}{b:Code}(hn:bq b=some q)(H:Sim P ι s h)(hmg:∀N M,mg N=some M->∀o∈N,∃J∈M,∀(x:Exit) (er:Env) (dr:List Deferred) (h':Heap),CP P ι s h m o x er dr h'->CP P ι s h m J x er dr h')(R:RO ι ro l):
 ∀(n:Nat) (L Y:List Out),yM (fun o=>Eb p self m ro q b o.e o.d o.s) mg n L= .ok Y->∀o∈L,∀(er:Env) (dr:List Deferred) (h1:Heap),CP P ι s h m o .normal er dr h1->∀w:World,w.heap=h1->
  ol (fen l) 0 P b (fun x a w'=>(∃y∈Y,CP P ι s h m y x a.tmps.toList a.defers w'.heap)/\Eng.Rest w w') n ⟨er.toArray,dr⟩ w:=
 tO (fun j u H D R=>KI ok hcf sd hn j u H D R) H hmg R
theorem Sim.big (H:Sim P ι s h):Sim P ι (bC s) h:=⟨H.fresh,H.inj,H.obj⟩
theorem zV (ha:amV s.V=false)(H:Sim P ι s h)(b:Nat):bZ s b=false:=by
 unfold bZ;cases hb:s.at b with
 |none=>rfl
 |some v=>
  have:=MW ha hb;cases v<;>first|rfl|(simp[amO]at this)
theorem Kn (H:Sim P ι s h){J:Out}(c:CP P ι (bC s) h m J x er dr h'):CP P ι s h m ⟨J.x,J.e,J.d,⟨J.s.V,J.s.nx,dz J.s.low s.low⟩⟩ x er dr h':=by
 obtain⟨v,ι',q1,q2,q3,q4⟩:=c;have O:dz J.s.low s.low=min J.s.low s.low:=iI _ _;refine⟨v,ι',⟨q1.sub,q1.nx,?_,q1.size,q1.dead,fun b x v=> ?_,q1.am,fun r I C=>q1.old r I fun b x v G=> ?_⟩,⟨q2.fresh,q2.inj,q2.obj⟩,q3,q4⟩
 .show dz J.s.low s.low<=s.low;omega
 .rcases q1.grow b x v with j|⟨j,u|⟨c,y,u,A,N,B⟩⟩
  .exact .inl j
  .exact .inr ⟨j,.inl u⟩
  .refine .inr ⟨j,.inr ⟨c,y,u,A,?_,B⟩⟩;show dz J.s.low s.low<=c;omega
 .rcases C b x v G with j|⟨j,u⟩
  .exact .inl j
  .refine .inr ⟨?_,u⟩;have j:b<dz J.s.low s.low:=j;omega
theorem SN (re:RE ι m e er)(H:Sim P ι s h)(D:DL ι d dr):CP P ι (bC s) h m ⟨.normal,e,d,bC s⟩ .normal er dr h:=⟨rfl,ι,Ste.refl ..,H.big,re,D⟩
theorem Ju (ok:Ok P p)(hcf:iN P (iJ p self))(sd:Snd P self){q:Tmp}{b:Code}(hn:bq b=some q)(re:RE ι m e er)(H:Sim P ι s h)(D:DL ι d dr)(R:RO ι ro l)(hmg:∀N M,mg N=some M->∀o∈N,∃J∈M,∀(x:Exit) (er:Env) (dr:List Deferred) (h':Heap),CP P ι (bC s) h m o x er dr h'->CP P ι (bC s) h m J x er dr h')(hd:yM (fun o=>Eb p self m ro q b o.e o.d o.s) mg 1000 [⟨.normal,e,d,bC s⟩]= .ok Y):WP l P (.loop b) (fun x er dr h'=>∃y∈Y,CP P ι (bC s) h m y x er dr h') er dr h:=
 bN fun w j=>wpIn_loop_rounds 1000 (Ph (l:=l) ok hcf sd hn H.big hmg R 1000 _ Y hd _ (mJ.2 rfl) er dr h (SN re H D) w j)
theorem Td (ok:Ok P p)(hcf:iN P (iJ p self))(sd:Snd P self){b:Code}(hn:bq b=some q)(hd:Lp p self m ro b e d s q r= .ok o)(re:RE ι m e er)(H:Sim P ι s h)(D:DL ι d dr)(R:RO ι ro l):WP l P (.loop b) (CP P ι s h m o) er dr h:=by
 unfold Lp at hd;split at hd
 .cases hd
 .rename_i v;simp only[Bool.or_eq_false_iff]at v;have j:∀b,bZ (bC s) b=false:=fun b=>zV v.1 H b
  split at hd
  .rename_i Y u;split at hd
   .rename_i U L G;split at hd
    .rename_i J C;rw[qw]at hd;cases hd;refine dD ?_ (Ju (l:=l) ok hcf sd hn re H D R (fun N M I o O=>Em H.big j I o O) u);rintro x B A h' ⟨y,Q,c⟩;exact Kn H (mX H.big j C (jo m (bC s) (kF b) y) (by rw[<-G];exact fo.2 ⟨y,Q,rfl⟩) (jA H.big j c))
    .cases hd
   .cases hd
  .cases hd
theorem Tx {s2:S}(H:Sim P ι s h)(hw:∀b,s2.at b=s.at b\/s2.at b=none)(hn:s2.nx=s.nx):Sim P ι s2 h:=by
 have v:∀b,s2.at b≠none->s.at b≠none:=fun b j=>by
  rcases hw b with u|u
  .rw[<-u];exact j
  .exact absurd u j
 refine⟨fun b x B=>by rw[hn];exact H.fresh b x B,fun b c x y j A=>H.inj b c x y (v b j) (v c A),fun b o j=> ?_⟩;rcases hw b with u|u
 .exact H.obj b o (u▸j)
 .rw[u]at j;cases j
theorem Ny {sa sb:S}(hn:sa.nx=sb.nx)(hl:sa.low=sb.low)(h1:∀b,sb.at b=none->sa.at b=none)(h2:∀b,bZ sa b=false)(c:CP P ι sa h m o x er dr h'):CP P ι sb h m o x er dr h':=by
 obtain⟨O,ι',q1,q2,q3,q4⟩:=c;refine⟨O,ι',⟨q1.sub,by rw[<-hn];exact q1.nx,by rw[<-hl];exact q1.low,q1.size,fun b H v=>q1.dead b (by rw[hn];exact H) (h1 b v),fun b y u=> ?_,fun b y u v=> ?_,fun r N I=>q1.old r N fun b y u J=> ?_⟩,q2,q3,q4⟩
 .rcases q1.grow b y u with j|⟨j,A|⟨c,z,A,B,C,G⟩⟩
  .exact .inl j
  .exact .inr ⟨by rw[<-hn];exact j,.inl A⟩
  .exact .inr ⟨by rw[<-hn];exact j,.inr ⟨c,z,A,B,C,fun v=>G (h1 c v)⟩⟩
 .have:=q1.am b y u v;rw[h2]at this;cases this
 .rcases I b y u J with j|⟨j,A⟩
  .exact .inl (h1 b j)
  .exact .inr ⟨j,h2 b⟩
structure Mid (s:S)(r mp since:Nat)(seen:List Nat)(s1:S):Prop where
 oth:∀b,b≠r->s1.at b=s.at b
 it:∃c,s1.at r=some (.iG mp since seen c)
 nx:s1.nx=s.nx
 low:s1.low=r
theorem qV {r mp since clock:Nat}{b:Code}:∀{cs:List Ent} {X:List Out},kG p self m ro b e d s r mp since clock cs= .ok X->∀c∈cs,∃o,bY p self m ro (.tup [.bool true,c.1,c.2.1]) b e d (dX s r (.iB mp since c.2.2 clock))= .ok o/\
 ((o.x= .normal/\s.nx<=o.s.low/\yP m e o.e m.n=true/\iD d o.d=true)\/(o.x≠.normal/\o∈X))
 |[],X,_,c,j=>by simp at j
 |c0::cs,X,hd,c,j=>by
  unfold kG at hd;split at hd
  .rename_i A G;split at hd
   .rename_i v;split at hd
    .rename_i u;simp only[aF]at u;rcases bP.1 j with rfl|j
     .exact⟨A,G,.inl ⟨(nS A).1 v,aH.1 u.1,u.2.1,u.2.2⟩⟩
     .exact qV hd c j
    .cases hd
   .rename_i v;split at hd
    .rename_i O J;cases hd;rcases bP.1 j with rfl|j
     .exact⟨A,G,.inr ⟨(fun N=>by rw[(nS A).2 N]at v;cases v),by simp⟩⟩
     .obtain⟨H,C,B|⟨B,I⟩⟩:=qV J c j
      .exact⟨H,C,.inl B⟩
      .exact⟨H,C,.inr ⟨B,by simp[I]⟩⟩
    .cases hd
  .cases hd
theorem yc {f g:Ent->Bool}{c:Ent}:∀{es:List Ent},(∀x,g x=true->f x=true)->c∈es->f c=true->g c=false->(es.filter g).length<(es.filter f).length
 |[],_,j,_,_=>by simp at j
 |x::es,hs,j,hf,hg=>by
  have A:∀l:List Ent,(l.filter g).length<=(l.filter f).length:=fun l=>by
   induction l with
   |nil=>simp
   |cons y l v=>
    cases hgy:g y with
    |true=>simp[mM,hgy,hs y hgy];exact v
    |false=>
     cases hfy:f y with
     |true=>simp[mM,hgy,hfy];omega
     |false=>simp[mM,hgy,hfy];exact v
  by_cases u:c=x
  .subst u;simp[mM,hf,hg];have:=A es;omega
  .have j:c∈es:=by rcases bP.1 j with h|h;exact absurd h u;exact h
   have v:=yc hs j hf hg;cases hgy:g x with
   |true=>simp[mM,hgy,hs x hgy];exact v
   |false=>
    cases hfy:f x with
    |true=>simp[mM,hgy,hfy];omega
    |false=>simp[mM,hgy,hfy];exact v
theorem NU {s1:S}{h1:Heap}{ι1:Io}(hl:s1.low=r){o:Out}(c:CP P ι1 (bC s1) h1 m o x er dr h'):CP P ι1 s1 h1 m (zK r o) x er dr h':=by
 obtain⟨v,ι',q1,q2,q3,q4⟩:=c;have N:dz o.s.low r=min o.s.low r:=iI _ _;refine⟨v,ι',⟨q1.sub,q1.nx,?_,q1.size,q1.dead,fun b x v=> ?_,q1.am,fun I H C=>q1.old I H fun b x v G=> ?_⟩,⟨q2.fresh,q2.inj,q2.obj⟩,q3,q4⟩
 .show dz o.s.low r<=s1.low;omega
 .rcases q1.grow b x v with j|⟨j,u|⟨c,y,u,A,J,B⟩⟩
  .exact .inl j
  .exact .inr ⟨j,.inl u⟩
  .refine .inr ⟨j,.inr ⟨c,y,u,A,?_,B⟩⟩;show dz o.s.low r<=c;omega
 .rcases C b x v G with j|⟨j,u⟩
  .exact .inl j
  .refine .inr ⟨?_,u⟩;have j:b<dz o.s.low r:=j;omega
theorem yh (ok:Ok P p)(hcf:iN P (iJ p self))(sd:Snd P self){b:Code}{es:List Ent}{X:List Out}(hn:bq b=some q)(hf:m.n<=2^m.dp)(hq:bu m e q= .ptr r 0)(H:Sim P ι s h)(ham:∀b,bZ s b=false)(R:RO ι ro l)(hmr:mp≠r)(hr16:r<=16383)(hmp:s.at mp=some (.map es clock))(hsc:since<=clock)(hlt:es.all (fun x=>kV x.2.2 since)=true){seen0:List Nat}(hX:kG p self m ro b e d (bC s) r mp since clock (es.filter (fun e=> !(seen0.any fun b=>aX b e.2.2)))= .ok X)(hXY:∀o∈X,zK r o∈Y)(hfalse:es.filter (fun e=> !(seen.any fun b=>aX b e.2.2))=[]->∃of,bY p self m ro (.tup [.bool false]) b e d (bG (bC s) r none s.nx 1000000000)= .ok of/\of.x≠.normal/\zK r of∈Y)(hsub:∀w,seen0.any (fun b=>aX b w)=true->seen.any (fun b=>aX b w)=true){k:Nat}(s1:S)(ι1:Io)(er:Env)(dr:List Deferred)(h1:Heap)(M:Mid s r mp since seen s1)(Q:Ste ι (bC s) h ι1 s1 h1)(H1:Sim P ι1 s1 h1)(re:RE ι1 m e er)(D:DL ι1 d dr)(w:World)(hw:w.heap=h1)(next:∀c∈es.filter (fun e=> !(seen.any fun b=>aX b e.2.2)),(∃o,bY p self m ro (.tup [.bool true,c.1,c.2.1]) b e d (dX (bC s) r (.iB mp since c.2.2 clock))= .ok o/\o.x= .normal)->∀(s2:S) (ι2:Io) (er:Env) (dr:List Deferred) (h2:Heap),Mid s r mp since (seen++[c.2.2]) s2->Ste ι (bC s) h ι2 s2 h2->Sim P ι2 s2 h2->RE ι2 m e er->DL ι2 d dr->∀w:World,w.heap=h2->
 ol (fen l) 0 P b (fun x a w'=>(∃y∈Y,CP P ι (bC s) h m y x a.tmps.toList a.defers w'.heap)/\Eng.Rest w w') k ⟨er.toArray,dr⟩ w):
 ol (fen l) 0 P b (fun x a w'=>(∃y∈Y,CP P ι (bC s) h m y x a.tmps.toList a.defers w'.heap)/\Eng.Rest w w') (k+1) ⟨er.toArray,dr⟩ w:=by
 obtain⟨c1,hc1⟩:=M.it;have hmp1:s1.at mp=some (.map es clock):=by rw[M.oth mp hmr];exact hmp
 have hcand:mr s1 r=some (es.filter (fun e=> !(seen.any fun b=>aX b e.2.2)),mp,since,seen,clock):=by
  unfold mr;rw[hc1];simp only;rw[hmp1];simp only;rw[aH.2 hsc,hlt];rfl
 have R1:=R.mono Q.sub;have key:WP l P b (fun x G C h'=>(x≠.normal/\∃y∈Y,CP P ι (bC s) h m y x G C h')\/
  (x= .normal/\∃c∈es.filter (fun e=> !(seen.any fun b=>aX b e.2.2)),(∃o,bY p self m ro (.tup [.bool true,c.1,c.2.1]) b e d (dX (bC s) r (.iB mp since c.2.2 clock))= .ok o/\o.x= .normal)/\∃s2 ι2,Mid s r mp since (seen++[c.2.2]) s2/\Ste ι (bC s) h ι2 s2 h'/\Sim P ι2 s2 h'/\RE ι2 m e G/\DL ι2 d C)) er dr h1:=by
  refine uW b hn fun ty=>uG re H1 hq hcand (fun hnil=> ?_) fun c hc v h2 hpost=> ?_
  .
   obtain⟨of,hof,hofx,hofY⟩:=hfalse hnil;have hat:∀b,(bG (bC s) r none s.nx 1000000000).at b=if r<=16383/\b=r then none else s.at b:=fun b=>bO (bC s) r b none s.nx 1000000000
   have hnx:(bG (bC s) r none s.nx 1000000000).nx=s.nx:=by unfold bG;rw[aJ];split<;>simp[En.aV]
   have hlw:(bG (bC s) r none s.nx 1000000000).low=1000000000:=by unfold bG;rw[aJ];split<;>simp[En.aV]
   have hto:∀b,(bG (bC s) r none s.nx 1000000000).at b=s1.at b\/(bG (bC s) r none s.nx 1000000000).at b=none:=fun b=>by
    rw[hat];by_cases A:b=r
    .right;rw[if_pos ⟨hr16,A⟩]
    .left;rw[if_neg (fun hh=>A hh.2),M.oth b A]
   have Hn:Sim P ι1 (bG (bC s) r none s.nx 1000000000) h1:=Tx H1 hto (by rw[hnx,M.nx]);refine iE ok hcf sd b hof re (by simp only[VR];exact⟨_,rfl,by simp[VL,VR]⟩) Hn D R1 fun x G C h' cc=> ?_
   left;have N:x≠.normal:=fun hx=>by
    have:=cc.1;rw[hx]at this;exact hofx (tN this)
   refine⟨N,zK r of,hofY,?_⟩;have hA:∀b,(bC s1).at b=none->(bG (bC s) r none s.nx 1000000000).at b=none:=fun b Z=>by
    rcases hto b with g|g
    .rw[g];exact Z
    .exact g
   have hB:∀b,bZ (bG (bC s) r none s.nx 1000000000) b=false:=fun b=>by
    unfold bZ;by_cases A:b=r
    .rw[hat,if_pos ⟨hr16,A⟩]
    .rw[hat,if_neg (fun hh=>A hh.2)];exact ham b
   have c2:CP P ι1 (bC s1) h1 m of x G C h':=Ny (by rw[hnx];exact M.nx.symm) (by rw[hlw];rfl) hA hB cc;exact(NU M.low c2).trans H.big Q
  .obtain⟨ι2,q1,q2,q3⟩:=hpost;have hcm:=dM.1 hc;have hclt:c.2.2<since:=bX.1 (bJ.1 hlt c hcm.1);have J:∀b,(gI s1 r (.iG mp since (seen++[c.2.2]) clock)).at b=if r<=16383/\b=r then some (.iG mp since (seen++[c.2.2]) clock)else s1.at b:=fun b=>by rw[kR];exact bO s1 r b _ _ _
   have hnx2:(gI s1 r (.iG mp since (seen++[c.2.2]) clock)).nx=s1.nx:=by rw[kR];unfold bG;rw[aJ];split<;>simp[En.aV]
   have hlw2:(gI s1 r (.iG mp since (seen++[c.2.2]) clock)).low=r:=by rw[kR];unfold bG;rw[aJ];split<;>simp[En.aV,M.low]
   generalize hs2:gI s1 r (.iG mp since (seen++[c.2.2]) clock)=s2 at q1 q2 J hnx2 hlw2;have u:s2.at r=some (.iG mp since (seen++[c.2.2]) clock):=by rw[J,if_pos ⟨hr16,rfl⟩]
   have U:Mid s r mp since (seen++[c.2.2]) s2:=⟨fun b A=>by rw[J,if_neg (fun hh=>A hh.2),M.oth b A],⟨clock,u⟩,by rw[hnx2,M.nx],hlw2⟩;have I:Ste ι (bC s) h ι2 s2 h2:=Q.trans H.big.fresh q1;have hatl:∀b,(dX (bC s) r (.iB mp since c.2.2 clock)).at b=if r<=16383/\b=r then some (.iB mp since c.2.2 clock)else s.at b:=fun b=>vR (bC s) r b _
   have hnxl:(dX (bC s) r (.iB mp since c.2.2 clock)).nx=s.nx:=by unfold dX bG;rw[aJ];split<;>simp[En.aV,bC]
   have hlwl:(dX (bC s) r (.iB mp since c.2.2 clock)).low=1000000000:=by unfold dX bG;rw[aJ];split<;>simp[En.aV,bC]
   have B:∀b,b≠r->(dX (bC s) r (.iB mp since c.2.2 clock)).at b=s2.at b:=fun b A=>by rw[hatl,if_neg (fun hh=>A hh.2),U.oth b A]
   have atrl:(dX (bC s) r (.iB mp since c.2.2 clock)).at r=some (.iB mp since c.2.2 clock):=by rw[hatl,if_pos ⟨hr16,rfl⟩]
   have O:∀b,(dX (bC s) r (.iB mp since c.2.2 clock)).at b≠none->s2.at b≠none:=fun b A=>by
    by_cases j:b=r
    .subst j;rw[u];simp
    .rw[B b j]at A;exact A
   have Hl:Sim P ι2 (dX (bC s) r (.iB mp since c.2.2 clock)) h2:=by
    refine⟨fun b y V=>by rw[hnxl,<-U.nx];exact q2.fresh b y V,fun b c y z A hc=>q2.inj b c y z (O b A) (O c hc),fun b v hv=> ?_⟩;by_cases j:b=r
    .subst j;rw[atrl]at hv;cases hv;obtain⟨y,ob,g1,g2,z,arr,cc,g3,g4,g5,g6,g7⟩:=q2.obj b _ u;exact⟨y,ob,g1,g2,z,arr,g3,by rw[g4,g7 hsc],g5.2 c.2.2 (by simp) hclt⟩
    .rw[B b j]at hv;exact q2.obj b v hv
   have hc0:c∈es.filter (fun e=> !(seen0.any fun b=>aX b e.2.2)):=by
    refine dM.2 ⟨hcm.1,?_⟩;cases Z:seen0.any (fun b=>aX b c.2.2)with
    |false=>rfl
    |true=>have:=hcm.2;rw[hsub _ Z]at this;cases this
   obtain⟨oc,hrun,hout⟩:=qV hX c hc0;refine iE ok hcf sd b hrun (re.mono q1.sub) q3 Hl (D.mono q1.sub) (R1.mono q1.sub) fun x G C h' cc=> ?_
   have aml:∀b,bZ (dX (bC s) r (.iB mp since c.2.2 clock)) b=false:=fun b=>by
    unfold bZ;by_cases j:b=r
    .subst j;rw[atrl];rfl
    .rw[B b j,U.oth b j];exact ham b
   have hA:∀b,(bC s2).at b=none->(dX (bC s) r (.iB mp since c.2.2 clock)).at b=none:=fun b Z=>by
    by_cases j:b=r
    .subst j;have Z:s2.at b=none:=Z;rw[u]at Z;cases Z
    .rw[B b j];exact Z
   have c2:CP P ι2 (bC s2) h2 m oc x G C h':=Ny (by rw[hnxl];exact U.nx.symm) (by rw[hlwl];rfl) hA aml cc;rcases hout with⟨hx,hlo,hsE,hsD⟩|⟨hx,hmem⟩
   .right;obtain⟨hx',ι3,p1,p2,p3,p4⟩:=c2;rw[hx]at hx';have hgh:Gh ι2 ι3:=fun b y V=>⟨y,p1.sub _ _ V,rfl,rfl⟩
    have hlo:s2.nx<=oc.s.low:=by rw[U.nx];exact hlo
    have keep:∀r',r'<h2.size->h'[r']? =h2[r']? :=fun r' W=>p1.old r' W fun b y V _=>by
     refine .inr ⟨bv (q2.fresh b y V).1 hlo,?_⟩;show bZ s2 b=false;unfold bZ;by_cases j:b=r
     .subst j;rw[u];rfl
     .rw[U.oth b j];exact ham b
    refine⟨hx',c,hc,⟨oc,hrun,hx⟩,s2,ι2,U,⟨I.sub,I.nx,I.low,fw I.size p1.size,I.dead,I.grow,I.am,fun r' W hcc=>(keep r' (bv W I.size)).trans (I.old r' W hcc)⟩,⟨fun b y V=>⟨(q2.fresh b y V).1,bv (q2.fresh b y V).2 p1.size⟩,q2.inj,fun b v hv=> ?_⟩,⟨p3.len,p3.fit,fun i hi=> ?_⟩,?_⟩
    .obtain⟨y,ob,g1,g2,g3⟩:=q2.obj b v hv;exact⟨y,ob,g1,(keep y.r (q2.fresh b y g1).2).trans g2,g3⟩
    .have hold:=(re.mono q1.sub).get i hi;have hnew:=p3.get i hi;have e1:∀e:E,bu m e i=En.get (Pa.of m.dp i) e:=fun e=>by unfold bu;rw[aJ,if_pos (aH.2 hi)]
     rcases uH hsE i hi with g|g
     .rw[e1]at g;rw[g];simp only[VR]
     .rw[e1,e1]at g;rw[<-g]at hnew;exact VR.back hgh _ hold hnew
    .have:=DL.same hgh hsD (D.mono q1.sub) p4;rw[this];exact D.mono q1.sub
   .left;have N:x≠.normal:=fun hxx=>by
     have:=c2.1;rw[hxx]at this;exact hx (tN this)
    exact⟨N,zK r oc,hXY oc hmem,(NU U.low c2).trans H.big I⟩
 subst hw;rw[roundsIn_succ];refine wpIn_mono (dH key w rfl) ?_;rintro x a' w' ⟨hor,hr⟩;rcases hor with⟨N,V⟩|⟨rfl,c,hc,hnorm,s2,ι2,U,I,H2,re2,D2⟩
 .cases x with
  |normal=>exact absurd rfl N
  |_=>exact⟨V,hr⟩
 .have:=next c hc hnorm s2 ι2 _ _ _ U I H2 re2 D2 w' rfl
  rw[dA]at this;exact iO (fun x a w3 ⟨h1,h2⟩=>⟨h1,hr.trans h2⟩) _ _ _ this
theorem Ei (ok:Ok P p)(hcf:iN P (iJ p self))(sd:Snd P self){b:Code}{es:List Ent}{X:List Out}(hn:bq b=some q)(hf:m.n<=2^m.dp)(hq:bu m e q= .ptr r 0)(H:Sim P ι s h)(ham:∀b,bZ s b=false)(R:RO ι ro l)(hmr:mp≠r)(hr16:r<=16383)(hmp:s.at mp=some (.map es clock))(hsc:since<=clock)(hlt:es.all (fun x=>kV x.2.2 since)=true){seen0:List Nat}(hX:kG p self m ro b e d (bC s) r mp since clock (es.filter (fun e=> !(seen0.any fun b=>aX b e.2.2)))= .ok X)(hXY:∀o∈X,zK r o∈Y)(hnil:X=[]->∃of,bY p self m ro (.tup [.bool false]) b e d (bG (bC s) r none s.nx 1000000000)= .ok of/\of.x≠.normal/\zK r of∈Y)(hends:X≠[]->∃c∈es.filter (fun e=> !(seen0.any fun b=>aX b e.2.2)),∀o,bY p self m ro (.tup [.bool true,c.1,c.2.1]) b e d (dX (bC s) r (.iB mp since c.2.2 clock))= .ok o->o.x≠.normal):
 ∀(k:Nat) (seen:List Nat),(∀w,seen0.any (fun b=>aX b w)=true->seen.any (fun b=>aX b w)=true)->(∀w∈seen,seen0.any (fun b=>aX b w)=true\/∃c∈es,c.2.2=w/\∃o,bY p self m ro (.tup [.bool true,c.1,c.2.1]) b e d (dX (bC s) r (.iB mp since c.2.2 clock))= .ok o/\o.x= .normal)->
  (es.filter (fun e=> !(seen.any fun b=>aX b e.2.2))).length<=k->∀(s1:S) (ι1:Io) (er:Env) (dr:List Deferred) (h1:Heap),Mid s r mp since seen s1->Ste ι (bC s) h ι1 s1 h1->Sim P ι1 s1 h1->RE ι1 m e er->DL ι1 d dr->∀w:World,w.heap=h1->
  ol (fen l) 0 P b (fun x a w'=>(∃y∈Y,CP P ι (bC s) h m y x a.tmps.toList a.defers w'.heap)/\Eng.Rest w w') (k+1) ⟨er.toArray,dr⟩ w:=by
 have J:(es.map (·.2.2)).Pairwise (·<·):=by
  obtain⟨y,ob,_,_,ents,_,_,h3,_⟩:=H.obj mp _ hmp;exact h3
 have U:∀a∈es,∀c∈es,a.2.2=c.2.2->a=c:=fun a ha c I he=>by
  obtain⟨i,hi⟩:=dL ha;obtain⟨j,hj⟩:=dL I;have hnd:(es.map (·.2.2)).Nodup:=J.imp (fun h=>Nat.ne_of_lt h);have hli:i<(es.map (·.2.2)).length:=by rw[List.length_map];exact(aS.1 hi).1
  have:=(zP hli hnd (j:=j)).1 (by rw[rV,rV,hi,hj];simp[he]);subst this;rw[hi]at hj;cases hj;rfl
 have A:∀seen:List Nat,(∀w∈seen,seen0.any (fun b=>aX b w)=true\/∃c∈es,c.2.2=w/\∃o,bY p self m ro (.tup [.bool true,c.1,c.2.1]) b e d (dX (bC s) r (.iB mp since c.2.2 clock))= .ok o/\o.x= .normal)->
  es.filter (fun e=> !(seen.any fun b=>aX b e.2.2))=[]->∃of,bY p self m ro (.tup [.bool false]) b e d (bG (bC s) r none s.nx 1000000000)= .ok of/\of.x≠.normal/\zK r of∈Y:=fun seen u C=>by
  by_cases V:X=[]
  .exact hnil V
  .exfalso;obtain⟨c,I,hcx⟩:=hends V;have v:=dM.1 I;have hsn:seen.any (fun b=>aX b c.2.2)=true:=by
    cases hz:seen.any (fun b=>aX b c.2.2)with
    |true=>rfl
    |false=>
     have:c∈es.filter (fun e=> !(seen.any fun b=>aX b e.2.2)):=dM.2 ⟨v.1,by rw[hz];rfl⟩;rw[C]at this;simp at this
   obtain⟨w,G,O⟩:=wF.1 hsn;have O:=aC O;subst O;rcases u _ G with h1|⟨c',h1,h2,o,h3,h4⟩
   .have:=v.2;rw[h1]at this;cases this
   .obtain rfl:=U c' h1 c v.1 h2;exact hcx o h3 h4
 intro k;induction k with
 |zero=>
  intro seen B u hk s1 ι1 er dr h1 M Q W re D w G;have C:es.filter (fun e=> !(seen.any fun b=>aX b e.2.2))=[]:=eQ.1 (by omega);exact yh ok hcf sd hn hf hq H ham R hmr hr16 hmp hsc hlt hX hXY (A seen u) B s1 ι1 er dr h1 M Q W re D w G fun c I=>by rw[C]at I;simp at I
 |succ k ih=>
  intro seen B u hk s1 ι1 er dr h1 M Q W re D w G;refine yh ok hcf sd hn hf hq H ham R hmr hr16 hmp hsc hlt hX hXY (A seen u) B s1 ι1 er dr h1 M Q W re D w G fun c I N=> ?_
  intro s2 ι2 er2 Z h2 M2 Q2 H2 re2 D2 w2 hw2;have v:=dM.1 I;refine ih (seen++[c.2.2]) (fun w G=>by rw[xJ,B w G];rfl) (fun w G=> ?_) ?_ s2 ι2 er2 Z h2 M2 Q2 H2 re2 D2 w2 hw2
  .rcases sW.1 G with h|h
   .exact u w h
   .rw[mJ]at h;exact .inr ⟨c,v.1,h.symm,N⟩
  .have:=yc (f:=fun e=> !(seen.any fun b=>aX b e.2.2)) (g:=fun e=> !((seen++[c.2.2]).any fun b=>aX b e.2.2)) (c:=c) (es:=es)
    (fun x hx=>by rw[xJ]at hx;cases hz:seen.any (fun b=>aX b x.2.2)with|false=>rfl|true=>simp[hz]at hx) v.1 v.2 (by rw[xJ];simp[lG])
   omega
theorem vz {r mp since clock:Nat}{b:Code}:∀{cs:List Ent} {X:List Out},kG p self m ro b e d s r mp since clock cs= .ok X->X≠[]->∃c∈cs,∀o,bY p self m ro (.tup [.bool true,c.1,c.2.1]) b e d (dX s r (.iB mp since c.2.2 clock))= .ok o->o.x≠.normal
 |[],X,hd,hX=>by cases hd;exact absurd rfl hX
 |c0::cs,X,hd,hX=>by
  unfold kG at hd;split at hd
  .rename_i G B;split at hd
   .split at hd
    .obtain⟨c,v,A⟩:=vz hd hX;exact⟨c,by simp[v],A⟩
    .cases hd
   .rename_i j;refine⟨c0,by simp,fun o u C=> ?_⟩;rw[B]at u;cases u;rw[(nS G).2 C]at j;cases j
  .cases hd
theorem Po (ok:Ok P p)(hcf:iN P (iJ p self))(sd:Snd P self){b:Code}(hn:bq b=some q)(hq:bu m e q= .ptr r 0)(hqd:bu m (forget m (nQ b) e) q= .ptr r 0)(hd:FW p self m ro b e d s r= .ok o)(re:RE ι m e er)(H:Sim P ι s h)(D:DL ι d dr)(R:RO ι ro l):WP l P (.loop b) (CP P ι s h m o) er dr h:=by
 unfold FW at hd;split at hd
 .cases hd
 .rename_i hamv;have ham:∀b,bZ s b=false:=zV hamv H;split at hd
  .rename_i Y B;split at hd
   .rename_i o1 L hYL;split at hd
    .rename_i J hJ;rw[qw]at hd;cases hd;have hloop:WP l P (.loop b) (fun x er dr h'=>∃y∈Y,CP P ι (bC s) h m y x er dr h') er dr h:=by
      unfold Nw at B;split at B
      .rename_i cs mp since seen clock A;split at B
       .cases B
       .rename_i hmr;have hmr:mp≠r:=fun he=>by subst he;rw[lG]at hmr;cases hmr
        split at B
        .rename_i X hX;have hY2:(∀o∈X,zK r o∈Y)/\(X=[]->∃of,bY p self m ro (.tup [.bool false]) b (forget m (nQ b) e) d (bG (bC s) r none s.nx 1000000000)= .ok of/\of.x≠.normal/\zK r of∈Y):=by
          split at B
          .cases B;exact⟨fun o ho=>fo.2 ⟨o,ho,rfl⟩,fun h=>by cases h⟩
          .split at B
           .rename_i of hof;split at B
            .cases B
            .rename_i hnf;cases B;exact⟨fun o ho=>by simp at ho,fun _=>⟨of,hof,(fun hx=>by rw[(nS of).2 hx]at hnf;cases hnf),by simp⟩⟩
           .cases B
         have hfacts:∃es o0,s.at r=some o0/\s.at mp=some (.map es clock)/\since<=clock/\es.all (fun x=>kV x.2.2 since)=true/\cs=es.filter (fun e=> !(seen.any fun b=>aX b e.2.2))/\∃c0,∀ob y,OR P ι y o0 ob->OR P ι y (.iG mp since seen c0) ob:=by
          unfold mr at A;split at A
          .rename_i mp' since' seen' W V;split at A
           .rename_i es clock' U;split at A
            .rename_i u;simp only[aF]at u;cases A;refine⟨es,_,V,U,aH.1 u.2.1,u.2.2,rfl,W,fun ob y ⟨z,g1,g2⟩=>⟨z,_,_,g1,g2,⟨fun w _=>seen_eq _ w,fun w hw _=> ?_⟩,aH.1 u.1,fun _=>rfl⟩⟩;obtain⟨sn,hh⟩:=List.getLast?_eq_some_iff.1 hw;rw[hh];simp
            .cases A
           .cases A
          .rename_i mp' since' seen' W V;split at A
           .rename_i es clock' U;split at A
            .rename_i u;simp only[aF]at u;cases A;exact⟨es,_,V,U,aH.1 u.1,u.2,rfl,W,fun ob y hh=>hh⟩
            .cases A
           .cases A
          .cases A
         obtain⟨es,o0,V,U,hsc,hlt,rfl,c0,hOR⟩:=hfacts;have hr16:r<=16383:=by
          unfold S.at at V;rw[aJ]at V;split at V
          .rename_i u;exact aH.1 u
          .cases V
         have N:∀b,(bG (bC s) r (some (.iG mp since seen c0)) s.nx r).at b=if r<=16383/\b=r then some (.iG mp since seen c0)else s.at b:=fun b=>bO (bC s) r b _ _ _
         have C:(bG (bC s) r (some (.iG mp since seen c0)) s.nx r).nx=s.nx:=by unfold bG;rw[aJ];split<;>simp[En.aV]
         have O:(bG (bC s) r (some (.iG mp since seen c0)) s.nx r).low=r:=by unfold bG;rw[aJ];split<;>simp[En.aV]
         generalize (bG (bC s) r (some (.iG mp since seen c0)) s.nx r)=s1 at N C O;have I:s1.at r=some (.iG mp since seen c0):=by rw[N,if_pos ⟨hr16,rfl⟩]
         have M:Mid s r mp since seen s1:=⟨fun b u=>by rw[N,if_neg (fun hh=>u hh.2)],⟨c0,I⟩,C,O⟩;have Z:∀b,s1.at b≠none->s.at b≠none:=fun b u=>by
          by_cases j:b=r
          .subst j;rw[V];simp
          .rw[M.oth b j]at u;exact u
         have H1:Sim P ι s1 h:=⟨fun b y hy=>by rw[C];exact H.fresh b y hy,fun b c y z u A=>H.inj b c y z (Z b u) (Z c A),fun b v hv=>by
          by_cases j:b=r
          .subst j;rw[I]at hv;cases hv;obtain⟨y,ob,g1,g2,g3⟩:=H.obj b _ V;exact⟨y,ob,g1,g2,hOR ob y g3⟩
          .rw[M.oth b j]at hv;exact H.obj b v hv⟩
         have Q:Ste ι (bC s) h ι s1 h:=⟨fun _ _ h=>h,by rw[C];exact bi _,by rw[O];show r<=1000000000;omega,bi _,fun b _ G=>by
          by_cases j:b=r
          .subst j;have G:s.at b=none:=G;rw[V]at G;cases G
          .rw[M.oth b j];exact G,fun b y hy=> .inl hy,fun b y hy G=>by
          by_cases j:b=r
          .subst j;unfold bZ at G;rw[I]at G;cases G
          .unfold bZ at G ⊢;rw[M.oth b j]at G;exact G,fun _ _ _=>rfl⟩
         refine bN fun w hw=>wpIn_loop_rounds ((es.filter (fun e=> !(seen.any fun b=>aX b e.2.2))).length+1) ?_
         exact Ei (l:=l) (h:=h) ok hcf sd hn re.fit hqd H ham R hmr hr16 U hsc hlt hX hY2.1 hY2.2 (vz hX) _ seen (fun _ hh=>hh) (fun w hw=> .inl (wF.2 ⟨w,hw,lG _⟩)) (bi _) s1 ι er dr h M Q H1 (qh re) D w hw
        .cases B
      .cases B
     refine dD ?_ hloop;rintro x er' dr' h' ⟨y,hy,c⟩;exact Kn H (mX H.big (fun b=>ham b) hJ (jo m (bC s) (kF b) y) (by rw[<-hYL];exact fo.2 ⟨y,hy,rfl⟩) (jA H.big (fun b=>ham b) c))
    .cases hd
   .cases hd
  .cases hd
theorem AU (ok:Ok P p)(lb:fE P p)(hcf:iN P (iJ p self))(sd:Snd P self){b:Code}(hd:nu p self m ro b e d s= .ok o)(re:RE ι m e er)(H:Sim P ι s h)(D:DL ι d dr)(R:RO ι ro l):WP l P (.loop b) (CP P ι s h m o) er dr h:=by
 unfold nu at hd;split at hd
 .exact wS sd hd re H D R
 .rename_i q G;split at hd
  .rename_i r I;split at hd
   .rename_i mp since J N;split at hd
    .rename_i es clock C;split at hd
     .split at hd
      .rename_i j;cases hd;unfold OJ at j;split at j
       .split at j
        .rename_i a u;split at j
         .rename_i v;rw[aC v]at u;exact Po ok hcf sd G I u j re H D R
         .cases j
        .cases j
       .cases j
      .split at hd
       .rename_i B;cases hd;exact Pf ok lb sd G I N C B re H D R
       .split at hd
        .rename_i A;cases hd;exact Td ok hcf sd G A re H D R
        .cases hd
     .exact wS sd hd re H D R
    .exact wS sd hd re H D R
   .exact wS sd hd re H D R
  .exact wS sd hd re H D R
theorem BC:∀es:List Ent,KE es=es.map (·.2.2)
 |[]=>rfl
 |x::l=>by
  unfold KE;rw[dR,BC l];rfl
theorem Av (re:RE ι m e er)(H:Sim P ι s h){k:Nat}{bs:List Nat}(hq:bu m e q= .ptr r 0)(hc:YO s r=some (mp,since,k,bs)){ty:TypeId}{Q:Value->Heap->Prop}(H0:¬k<bs.length->Q (.tuple #[.bool false]) h)(H1:k<bs.length->∀v h1,Post P ι s h (.tup [.bool true,.any,.any]) (gI s r (.BL mp since (cK k) bs)) v h1->Q v h1):aI P (.next (.tmp q) false) ty er h Q:=by
 have G:opd m e (.tmp q)=some (.ptr r 0):=by rw[<-hq];rfl
 replace G:=ai re G
 simp only[VR]at G;obtain⟨y,hy,G⟩:=G;have key:∃es z u c0 o0 clock,∃I:List Nat,s.at r=some o0/\s.at mp=some (.map es clock)/\since<=clock/\(∀x∈es,x.2.2<since)/\bs=es.map (·.2.2)/\ι mp=some z/\h[y.r]? =some (.mapIter (some z.r) since u c0)/\since<=c0/\I.Nodup/\I.length=k/\(∀w∈I,w∈bs)/\∀w,w<since->(u.contains w=true<->w∈I):=by
  unfold YO at hc;split at hc
  .rename_i mp' since' last hr;split at hc
   .rename_i es V N;split at hc
    .rename_i Z;simp only[aF,bJ]at Z;cases hc;obtain⟨y',ob,g1,g2,z,g3,rfl⟩:=H.obj r _ hr;rw[hy]at g1;cases g1;exact⟨es,z,_,_,_,_,[],hr,N,aH.1 Z.2.1,fun x G=>bX.1 (Z.2.2 x G),BC es,g3,g2,aH.1 Z.1,SF,rfl,fun w U=>by simp at U,fun w _=>by simp⟩
    .cases hc
   .cases hc
  .rename_i mp' since' k' bs' hr;split at hc
   .rename_i es V N;split at hc
    .rename_i Z;simp only[aF,bJ]at Z;cases hc;obtain⟨y',ob,g1,g2,z,u,c0,g3,rfl,g5,I,g6,g7,g8,g9⟩:=H.obj r _ hr;rw[hy]at g1;cases g1;exact⟨es,z,_,_,_,_,I,hr,N,aH.1 Z.1,fun x G=>bX.1 (Z.2.1 x G),(gu Z.2.2).trans (BC es),g3,g2,g5,g6,g7,g8,g9⟩
    .cases hc
   .cases hc
  .cases hc
 obtain⟨es,z,u,c0,o0,clock,I,hr,N,hcb,hlt,hbs,hz,hit,hsc,hnd,hlen,hsub,J⟩:=key;obtain⟨B,h1,h2,h3⟩:=jN H N hz;have hold:∀x∈B.toList,x.born<since:=fun x G=>by
  obtain⟨q,h4,h5⟩:=h2.mem G;have:=hlt q h4;have h6:q.2.2=x.born:=h5.2.2;omega
 have hbnd:bs.Nodup:=by rw[hbs];exact h3.1.imp Nat.ne_of_lt
 refine rC rfl fun W hW=> ?_
 subst hW;rcases run_next_at (P:=P) W ty y.r z.r since c0 u B clock hit h1 hold hsc with⟨hz0,O⟩|⟨A,he,w1,hw1,O⟩
 .refine⟨_,W,by simp[execOp,G,O],Eng.Rest.refl W,H0 fun hk=> ?_⟩;have hall:bs⊆I:=fun w U=>by
   rw[hbs,fo]at U;obtain⟨x,hxm,rfl⟩:=U;obtain⟨j,hj⟩:=dL hxm;obtain⟨A,c1,c2⟩:=h2.get hj;have h6:x.2.2=A.born:=c2.2.2;have hw':x.2.2<since:=hlt x hxm;rw[<-J _ hw'];cases hq:u.contains x.2.2 with
   |true=>rfl
   |false=>
    exfalso;have C:A∈(leftOf B u).toList:=by
     unfold leftOf;rw[ql,dM];exact⟨bQ c1,by rw[<-h6,hq];rfl⟩
    have:0<(leftOf B u).toList.length:=CF C;rw[dC]at this;omega
  have:=hbnd.length_le_of_subset hall;omega
 .have he':=he;unfold leftOf at he';rw[ql,dM]at he';obtain⟨C,hns⟩:=he';obtain⟨c,h4,h5⟩:=h2.mem C;have h6:c.2.2=A.born:=h5.2.2;have hin:A.born∈bs:=by rw[hbs,fo];exact⟨c,h4,h6⟩
  have hnot:A.born∉I:=fun hq=>by
   rw[(J _ (hold A C)).2 hq]at hns;cases hns
  have hnd':(A.born::I).Nodup:=PE.2 ⟨hnot,hnd⟩;have R:∀w∈A.born::I,w∈bs:=fun w U=>by
   rcases bP.1 U with rfl|U
   .exact hin
   .exact hsub w U
  have hk:k<bs.length:=by
   have:=hnd'.length_le_of_subset R;rw[ed]at this;omega
  refine⟨.tuple #[.bool true,A.key,A.val],kX w1 y.r (.mapIter (some z.r) since (u.push A.born) clock),by simp only[execOp,G,aY,O,aN,bE],?_,H1 hk _ _ ?_⟩
  .rcases hw1 with rfl|rfl<;>exact⟨rfl,rfl,rfl⟩
  .have hpost:Post P ι s W.heap (.tup [.bool true,.any,.any]) (gI s r (.BL mp since (cK k) bs)) (.tuple #[.bool true,A.key,A.val]) (W.heap.setIfInBounds y.r (.mapIter (some z.r) since (u.push A.born) clock)):=by
    refine gW H hr hy (o:= .BL mp since (cK k) bs) ⟨z,_,_,hz,rfl,hcb,A.born::I,hnd',by rw[ed,hlen],R,fun w U=> ?_⟩ ?_
    .simp only[kM,zA,bP];rw[<-kM,J w U];exact or_comm
    .simp only[VR];exact⟨_,rfl,VL.mk3 (by simp only[VR]) (by simp only[VR]) (by simp only[VR])⟩
   have hh:(kX w1 y.r (.mapIter (some z.r) since (u.push A.born) clock)).heap=W.heap.setIfInBounds y.r (.mapIter (some z.r) since (u.push A.born) clock):=by rcases hw1 with rfl|rfl<;>rfl
   rw[hh];exact hpost
theorem Gs (ok:Ok P p)(hcf:iN P (iJ p self))(sd:Snd P self){q:Tmp}{b:Code}{outs:List Out}(hn:bq b=some q)(hd:Nn p self m ro q b e d s= .ok outs)(re:RE ι m e er)(H:Sim P ι s h)(D:DL ι d dr)(R:RO ι ro l):
 WP l P b (fun x er dr h'=>∃y∈outs,CP P ι s h m y x er dr h') er dr h:=by
 refine uW b hn fun ty=> ?_
 unfold Nn at hd;split at hd
 .rename_i r J;split at hd
  .rename_i mp since k U I;split at hd
   .rename_i j;rw[dR]at hd;split at hd
    .rename_i C B;cases hd;refine Av re H J I (fun O=>absurd (bX.1 j) O) (fun _ v G Q=> ?_);obtain⟨V,q1,q2,q3⟩:=Q;exact iE ok hcf sd b B (re.mono q1.sub) q3 q2 (D.mono q1.sub) (R.mono q1.sub) (fun x A u h' N=>⟨C,by simp,N.trans H q1⟩)
    .cases hd
   .rename_i j;split at hd
    .rename_i C B;cases hd;refine Av re H J I (fun _=> ?_) (fun G=>by rw[bX.2 G]at j;cases j);exact iE ok hcf sd b B re (by simp only[VR];exact⟨_,rfl,by simp[VL,VR]⟩) H D R (fun x A u h' c=>⟨C,by simp,c⟩)
    .cases hd
  .cases hd
 .cases hd
theorem VN (ok:Ok P p)(hcf:iN P (iJ p self))(sd:Snd P self){b:Code}(hn:bq b=some q)(hd:wI p self m ro b e d s q= .ok o)(re:RE ι m e er)(H:Sim P ι s h)(D:DL ι d dr)(R:RO ι ro l):WP l P (.loop b) (CP P ι s h m o) er dr h:=by
 unfold wI at hd;split at hd
 .rename_i I j;cases hd;refine bN fun w G=>wpIn_loop_rounds 1000 ?_
  have:=tO (l:=l) (f:=fun o=>Nn p self m ro q b o.e o.d o.s) (fun hd re H D R=>Gs ok hcf sd hn hd re H D R) H (mg:=some) (fun N M B o C=>⟨o,by cases B;exact C,fun _ _ _ _ c=>c⟩) R 1000 _ _ j _ (mJ.2 rfl) er dr h ⟨rfl,ι,Ste.refl ..,H,re,D⟩ w G;exact iO (fun x a J ⟨⟨y,v,u⟩,A⟩=>⟨by rw[mJ.1 v]at u;exact u,A⟩) _ _ _ this
 .cases hd
 .cases hd
theorem PU (ok:Ok P p)(lb:fE P p)(hcf:iN P (iJ p self))(sd:Snd P self){b:Code}(hd:wy p self m ro b e d s= .ok o)(re:RE ι m e er)(H:Sim P ι s h)(D:DL ι d dr)(R:RO ι ro l):WP l P (.loop b) (CP P ι s h m o) er dr h:=by
 unfold wy at hd;split at hd
 .exact wS sd hd re H D R
 .rename_i q u;split at hd
  .exact AU ok lb hcf sd hd re H D R
  .split at hd
   .rename_i j;cases hd;exact VN ok hcf sd u j re H D R
   .exact AU ok lb hcf sd hd re H D R
theorem yO {c:Code}:∀{L outs:List Out},zy self m ro c L= .ok outs->∀o∈L,o.x= .normal/\∃y∈outs,self m ro c o.e o.d o.s= .ok y
 |[],outs,_,o,j=>by simp at j
 |z::L,outs,hd,o,j=>by
  unfold zy at hd;split at hd
  .rename_i G;split at hd
   .rename_i y C;split at hd
    .split at hd
     .rename_i r B;cases hd;rcases bP.1 j with rfl|j
      .exact⟨G,y,by simp,C⟩
      .obtain⟨u,H,v,A⟩:=yO B o j;exact⟨u,H,by simp[v],A⟩
     .cases hd
    .cases hd
   .cases hd
  .cases hd
noncomputable def inB (i:Nat)(x:Exit):Exit:=match x with| .exit j=>if j=i then .normal else .exit j|x=>x
theorem G7 {y:Out}(c:CP P ι s h m y x er dr h'):CP P ι s h m (FE i y) (inB i x) er dr h':=by
 obtain⟨u,r⟩:=c;unfold FE;split
 .rename_i j A;rw[A]at u;obtain rfl:x= .exit j:=u;split
  .rename_i v;simp only[inB];rw[if_pos (aC v)];exact⟨rfl,r⟩
  .rename_i v;simp only[inB];rw[if_neg (fun e=>by subst e;rw[lG]at v;cases v)];exact⟨by rw[A];rfl,r⟩
 .rename_i A;cases x with
  |exit j=>
   exfalso;cases hy:y.x with
   |exit j'=>exact A _ hy
   |_=>rw[hy]at u;cases u
  |_=>exact⟨u,r⟩
theorem EI {b:Code}{k:aj}{h:Heap}(H:WP l P b (fun x er dr h'=>k (inB i x) er dr h') er dr h):WP l P (.block i b) k er dr h:=by
 refine bN fun w B=>wpIn_block (wpIn_mono (dH H w B) ?_)
 rintro x a C ⟨u,v⟩;cases x with
 |exit j=>
  simp only[Exit.inBlock];simp only[inB]at u;split
  .rename_i A;rw[if_pos A]at u;exact⟨u,v⟩
  .rename_i A;rw[if_neg A]at u;exact⟨u,v⟩
 |_=>exact⟨u,v⟩
theorem Rp (ok:Ok P p)(hcf:iN P (iJ p self))(sd:Snd P self){c rest:Code}{q:Tmp}(hn:bq lb=some q)(ha:amV s.V=false)(hd:xP p self m ro mg i lb q c rest e d s= .ok o)(re:RE ι m e er)(H:Sim P ι s h)(hmg:∀N M,mg N=some M->∀o∈N,∃J∈M,∀(x:Exit) (er:Env) (dr:List Deferred) (h':Heap),CP P ι (bC s) h m o x er dr h'->CP P ι (bC s) h m J x er dr h')(D:DL ι d dr)(R:RO ι ro l):
 WP l P (.block i (.loop lb)) (nxK (fun er dr h'=>WP l P (.seq c rest) (CP P ι s h m o) er dr h') (CP P ι s h m o)) er dr h:=by
 have u:∀b,bZ (bC s) b=false:=fun b=>zV ha H b
 unfold xP at hd;split at hd
 .rename_i Y Q;split at hd
  .rename_i Z U;split at hd
   .rename_i o1 L hZ;split at hd
    .rename_i J hJ;split at hd
     .rename_i O;rw[qw]at hd;refine EI (dD ?_ (Ju (l:=l) ok hcf sd hn re H D R hmg Q));rintro x G B h' ⟨y,hy,cy⟩;obtain⟨W,z,hz,v⟩:=yO U (FE i y) (fo.2 ⟨y,hy,rfl⟩);have cb:=G7 (i:=i) cy;obtain⟨A,ι1,q1,q2,q3,q4⟩:=cb;rw[W]at A;have A:inB i x= .normal:=A;rw[A];unfold nxK;refine zT ?_;refine dD ?_ (sd _ _ _ _ _ _ _ v ι1 G B h' l q3 q2 q4 (R.mono q1.sub));intro x2 I C h2 c2;have c3:=Kn H (mX H.big u hJ (jo m (bC s) (kF lb) z) (by rw[<-hZ];exact fo.2 ⟨z,hz,rfl⟩) (jA H.big u (c2.trans H.big q1)));obtain⟨j,ι3,r1,r2,r3,r4⟩:=c3;have j:x2= .normal:=by rw[j];show exR J.x=_;rw[O];rfl
      subst j;unfold nxK;exact dD (fun _ _ _ _ cc=>cc.trans H r1) (sd _ _ _ _ _ _ _ hd ι3 I C h2 l r3 r2 r4 (R.mono r1.sub))
     .cases hd
    .cases hd
   .cases hd
  .cases hd
 .cases hd
theorem KU {a:Code}{q:Tmp}(h:Ga a=some (i,lb,q)):a= .block i (.loop lb)/\bq lb=some q:=by
 unfold Ga at h;split at h
 .split at h
  .rename_i j;split at h
   .cases h;exact⟨rfl,j⟩
   .cases h
  .cases h
 .cases h
theorem UK (ok:Ok P p)(hcf:iN P (iJ p self))(sd:Snd P self){a b:Code}(hd:Bq p self m ro a b e d s= .ok o)(re:RE ι m e er)(H:Sim P ι s h)(D:DL ι d dr)(R:RO ι ro l):WP l P (.seq a b) (CP P ι s h m o) er dr h:=by
 unfold Bq at hd;split at hd
 .rename_i a1 a2 c B;split at hd
  .rename_i i lb q hb;obtain⟨rfl,hn⟩:=KU hb;split at hd
   .rename_i e1 W s1 h1;split at hd
    .rename_i v;simp only[aF,lh]at v;refine zT (zT ?_);refine dD ?_ (sd _ _ _ _ _ _ _ h1 ι er dr h l re H D R);rintro x I G h' ⟨hx,C,q1,q2,q3,q4⟩;obtain rfl:x= .normal:=hx;show WP l P (.block i (.loop lb)) _ I G h';have A:∃mg:List Out->Option (List Out),xP p self m ro mg i lb q c B e1 W s1= .ok o/\∀N M,mg N=some M->∀o∈N,∃J∈M,∀(x:Exit) (er:Env) (dr:List Deferred) (u:Heap),CP P C (bC s1) h' m o x er dr u->CP P C (bC s1) h' m J x er dr u:=by
      have j:∀N M:List Out,some N=some M->∀o∈N,∃J∈M,∀(x:Exit) (er:Env) (dr:List Deferred) (u:Heap),CP P C (bC s1) h' m o x er dr u->CP P C (bC s1) h' m J x er dr u:=fun N M v o U=>by cases v;exact⟨o,U,fun _ _ _ _ c=>c⟩
      split at hd
      .rename_i r _ _;split at hd
       .rename_i U;cases hd;exact⟨_,U,fun N M O=>FB q2.big (fun b=>zV v.2 q2 b) O⟩
       .split at hd
        .exact⟨some,hd,j⟩
        .cases hd
      .exact⟨some,hd,j⟩
     obtain⟨mg,hd,Q⟩:=A;refine dD ?_ (Rp (l:=l) ok hcf sd hn v.2 hd q3 q2 Q q4 (R.mono q1.sub));intro x2 er2 Z u c2;unfold nxK at c2 ⊢;cases x2 with
     |normal=>exact dD (fun _ _ _ _ V=>V.trans H q1) c2
     |_=>exact c2.trans H q1
    .exact PH sd hd re H D R
   .exact PH sd hd re H D R
  .exact PH sd hd re H D R
 .exact PH sd hd re H D R
end
end mapo
end Go.Run
namespace Go.Run
open Go Go.Eng
section all
variable {P:Program}{p:Pr}{self:ae}
theorem Lr (ok:Ok P p)(lb:fE P p)(sd:Snd P self):Snd P (step p self):=by
 have v:=Js ok lb sd;intro m ro c e d s o j ι er dr h l u H D R;cases c<;>simp only[step]at j
 case skip=>cases j;exact Y7 u H D
 case label i=>cases j;exact WU u H D
 case ret=>cases j;exact zAu u H D
 case exit i=>cases j;exact ZL u H D
 case goto i=>cases j;exact Y2 u H D
 case seq a b=>exact UK ok v sd j u H D R
 case cond x a b=>exact Xw sd j u H D R
 case block i b=>exact WN sd j u H D R
 case region id ops draw=>
  cases draw with
  |true=>exact NH ok v j u H D
  |false=>exact Eh ok v j u H D
 case loop b=>exact PU ok lb v sd j u H D R
 case scope b=>exact Vs sd j u H D R
 case rangeFunc f ps a b=>exact Vg ok lb sd j u H D R
 case refuse w=>cases j
theorem eY (ok:Ok P p)(lb:fE P p):∀n,Snd P (DK p n)
 |0=>fun m ro c e d s o j=>by cases j
 |n+1=>Lr ok lb (eY ok lb n)
theorem Sim.zero (h:Heap):Sim P (fun _=>none) s0 h:=by
 refine⟨fun b x j=>(by cases j),fun b c x y _ _ j=>(by cases j),fun b o u=> ?_⟩;simp[s0,S.at,En.bU,aJ]at u
noncomputable def TyQ (P:Program)(t:Nat)(o:Option TI):Prop:=∀ti,o=some ti->Wh P t=some {ti with fl:=[]}/\(ti.fl=[]\/flT P t=ti.fl)
noncomputable def Ck {α:Type}(Q:Nat->Option α->Prop):Nat->Nat->Nat->En (Option α)->Prop
 |0,b,_,t=>Q b t.lf
 |_+1,_,_,.leaf none=>True
 |_+1,_,_,.leaf (some _)=>False
 |d+1,b,k,.node l r=>Ck Q d b (k+k) l/\Ck Q d (b+k) (k+k) r
theorem Ck.get {α:Type}{Q:Nat->Option α->Prop}(hn:∀b,Q b none):∀{d b k:Nat} {tr:En (Option α)},Ck Q d b k tr->∀t,t<2^d->Q (b+k*t) (En.get (Pa.of d t) tr)
 |0,b,k,tr,h,t,ht=>by
  have:t=0:=by simp at ht;omega
  subst this;exact h
 |d+1,b,k,.leaf none,h,t,ht=>by rw[En.bU];exact hn _
 |d+1,b,k,.leaf (some v),h,t,ht=>h.elim
 |d+1,b,k,.node l r,h,t,ht=>by
  rw[Nat.pow_succ]at ht;rw[Pa.of_succ];split
  .rename_i u;rw[En.BS];have:=Ck.get hn h.1 (t/2) (by omega);have j:b+(k+k)*(t/2)=b+k*t:=by
    obtain⟨q,rfl⟩:∃q,t=2*q:=⟨t/2,by omega⟩;rw[Nat.mul_div_cancel_left _ (by omega),<-Nat.two_mul,Nat.mul_comm 2 k,VS]
   rw[j]at this;exact this
  .rename_i u;rw[En.Aq];have:=Ck.get hn h.2 (t/2) (by omega);have j:b+k+(k+k)*(t/2)=b+k*t:=by
    obtain⟨q,rfl⟩:∃q,t=2*q+1:=⟨t/2,by omega⟩;have:(2*q+1)/2=q:=by omega
    rw[this,<-Nat.two_mul,Nat.mul_comm 2 k,VS,Nat.mul_add,Nat.mul_one];omega
   rw[j]at this;exact this
theorem Rw (hl:∀g,p.lib g=0)(hm:∀g,p.mem g=none):fE P p:=⟨fun g _ _ _ _ j=>absurd (hl g) j,fun g f _ _ _ _ j=>by rw[hm g]at j;cases j⟩
end all
end Go.Run
namespace Go.Run
open Go Go.Eng
noncomputable def xX:Code->List Code
 | .seq a b=>xX a++xX b
 |c=>[c]
noncomputable def Fb (self:ae)(m:Fm)(ro:Option Nat):List Code->E->List Nat->S->Res Out
 |[],e,d,s=> .ok ⟨.normal,e,d,s⟩
 |c::cs,e,d,s=>match self m ro c e d s with
  | .ok ⟨.normal,e,d,s⟩=>Fb self m ro cs e d s
  |r=>r
noncomputable def lM (m:Fm):List Nat->E->E->E
 |[],_,acc=>acc
 |t::ks,e,acc=>ite (bn (cK t) m.n) (force (bu m e t) fun v=>En.eU (Pa.of m.dp t) v acc fun acc=>lM m ks e acc) (lM m ks e acc)
noncomputable def nD:List Nat->S->En (Option VO)->En (Option VO)
 |[],_,V=>V
 |b::bs,s,V=>ite (bn b 16383) (En.eU (Pa.of 14 b) (s.at b) V fun V=>nD bs s V) (nD bs s V)
noncomputable def EM (m:Fm):List (Nat×T)->E->E
 |[],acc=>acc
 |x::ks,acc=>En.eU (Pa.of m.dp x.1) x.2 acc fun acc=>EM m ks acc
noncomputable def fromV:List (Nat×VO)->En (Option VO)->En (Option VO)
 |[],V=>V
 |x::bs,V=>En.eU (Pa.of 14 x.1) (some x.2) V fun V=>fromV bs V
noncomputable def seg (p:Pr)(n:Nat)(m:Fm)(cs:List Code)(ks bs:List Nat)(e:E)(d:List Nat)(s:S):Option (E×List Nat×S):=
 match Fb (DK p n) m none cs e d s with
 | .ok ⟨.normal,e,d,s⟩=>some (lM m ks e (.leaf .any),d,⟨nD bs s (.leaf none),s.nx,s.low⟩)
 |_=>none
noncomputable def zBH:Ex->Bool| .normal=>true| .ret=>true|_=>false
noncomputable def U5:Res (T×S)->Bool| .ok (.bool true,_)=>true|_=>false
noncomputable def lastB (p:Pr)(n:Nat)(m:Fm)(rs:List ResultVar)(cs:List Code)(e:E)(d:List Nat)(s:S):Bool:=
 match Fb (DK p n) m none cs e d s with
 | .ok ⟨x,e,d,s⟩=>zBH x&&U5 (EN p m rs e d s)
 |_=>false
inductive Ed (p:Pr)(n:Nat)(m:Fm)(rs:List ResultVar):List Code->E->List Nat->S->Prop
 |last {cs e d s}:lastB p n m rs cs e d s=true->Ed p n m rs cs e d s
 |next {cs e d s e2 d2 s2} (k:Nat) (ks bs:List Nat):seg p n m (cs.take k) ks bs e d s=some (e2,d2,s2)->Ed p n m rs (cs.drop k) e2 d2 s2->Ed p n m rs cs e d s
section pieces
variable {P:Program}{p:Pr}{ι:Io}{s s' s2:S}{h:Heap}{m:Fm}{e e':E}{er:Env}{self:ae}{ro:Option Nat}{d:List Nat}{dr:List Deferred}{l:Option Nat}{o:Out}
theorem pM (H:Sim P ι s h)(hw:∀b,s2.at b=s.at b\/s2.at b=none)(hn:s2.nx=s.nx):Sim P ι s2 h:=by
 have v:∀b,s2.at b≠none->s.at b≠none:=fun b j=>by
  rcases hw b with u|u
  .rw[<-u];exact j
  .exact absurd u j
 refine⟨fun b x B=>by rw[hn];exact H.fresh b x B,fun b c x y j A=>H.inj b c x y (v b j) (v c A),fun b o j=> ?_⟩;rcases hw b with u|u
 .exact H.obj b o (u▸j)
 .rw[u]at j;cases j
theorem oK (hw:∀b,s2.at b=s.at b\/s2.at b=none)(hn:s2.nx=s.nx)(hl:s2.low=s.low):Ste ι s h ι s2 h:=by
 refine⟨fun _ _ h=>h,by rw[hn];exact bi _,by rw[hl];exact bi _,bi _,fun b _ u=> ?_,fun _ _ h=> .inl h,fun b x _ u=> ?_,fun _ _ _=>rfl⟩
 .rcases hw b with j|j
  .rw[j];exact u
  .exact j
 .unfold bZ at u ⊢;rcases hw b with j|j
  .rw[<-j];exact u
  .rw[j]at u;cases u
theorem nE (s:S):∀(bs:List Nat) (V:En (Option VO)) (nx low:Nat),(∀b,(⟨V,nx,low⟩:S).at b=s.at b\/(⟨V,nx,low⟩:S).at b=none)->∀b,(⟨nD bs s V,nx,low⟩:S).at b=s.at b\/(⟨nD bs s V,nx,low⟩:S).at b=none
 |[],V,nx,low,hV=>hV
 |c::bs,V,nx,low,hV=>by
  unfold nD;rw[aJ];split
  .rename_i A;have A:=aH.1 A;rw[En.aV];refine nE s bs _ nx low fun b=> ?_
   have u:=hV b;unfold S.at at u ⊢;rw[aJ,aJ]at u ⊢;by_cases j:bn b 16383=true
   .simp only[j,if_true]at u ⊢;have B:=aH.1 j;rw[En.bT (by omega) (by omega)];split
    .rename_i v;subst v;left;rfl
    .exact u
   .simp only[j,if_false]at u ⊢;right;trivial
  .exact nE s bs V nx low hV
theorem kr (re:RE ι m e er):∀(ks:List Nat) (acc:E),RE ι m acc er->RE ι m (lM m ks e acc) er
 |[],acc,ra=>ra
 |t::ks,acc,ra=>by
  unfold lM;rw[aJ];split
  .rename_i u;have u:t<m.n:=aH.1 u;rw[force_eq,En.aV];refine kr re ks _ ⟨ra.len,ra.fit,fun i v=> ?_⟩;have A:=ra.fit;rw[En.bT (by omega) (by omega)];split
   .rename_i j;subst j;exact iY re i
   .exact ra.get i v
  .exact kr re ks acc ra
noncomputable def WPs (l:Option Nat)(P:Program):List Code->aj->Env->List Deferred->Heap->Prop
 |[],k=>k .normal
 |c::cs,k=>WP l P c (nxK (fun e d h=>WPs l P cs k e d h) k)
theorem iQ {k k':aj}(hk:∀x e d h,k x e d h->k' x e d h):∀(cs:List Code) {er:Env} {dr:List Deferred} {h:Heap},WPs l P cs k er dr h->WPs l P cs k' er dr h
 |[],er,dr,h,H=>hk _ _ _ _ H
 |c::cs,er,dr,h,H=>by
  refine dD ?_ H;intro x e d h j;cases x with
  |normal=>exact iQ hk cs j
  |_=>exact hk _ _ _ _ j
theorem ky {k:aj}:∀(as bs:List Code) {er:Env} {dr:List Deferred} {h:Heap},WPs l P as (nxK (fun e d h=>WPs l P bs k e d h) k) er dr h->WPs l P (as++bs) k er dr h
 |[],bs,er,dr,h,H=>H
 |a::as,bs,er,dr,h,H=>by
  refine dD ?_ H;intro x e d h j;cases x with
  |normal=>exact ky as bs j
  |_=>exact j
theorem D5 {k:aj}:∀(as bs:List Code) {er:Env} {dr:List Deferred} {h:Heap},WPs l P (as++bs) k er dr h->WPs l P as (nxK (fun e d h=>WPs l P bs k e d h) k) er dr h
 |[],bs,er,dr,h,H=>H
 |a::as,bs,er,dr,h,H=>by
  refine dD ?_ H;intro x e d h j;cases x with
  |normal=>exact D5 as bs j
  |_=>exact j
theorem gJ {k:aj}{c:Code}{er:Env}{dr:List Deferred}{h:Heap}(H:WPs l P [c] k er dr h):WP l P c k er dr h:=by
 refine dD ?_ H;intro x e d h j;cases x with
 |normal=>exact j
 |_=>exact j
theorem mO:∀(c:Code) {k:aj} {er:Env} {dr:List Deferred} {h:Heap},WPs l P (xX c) k er dr h->WP l P c k er dr h
 | .seq a b,k,er,dr,h,H=>by
   unfold xX at H;refine zT ?_;refine mO a (iQ ?_ _ (D5 _ _ H));intro x e d h j;cases x with
   |normal=>exact mO b j
   |_=>exact j
 | .skip,k,er,dr,h,H=>gJ H
 | .cond _ _ _,k,er,dr,h,H=>gJ H
 | .block _ _,k,er,dr,h,H=>gJ H
 | .region _ _ _,k,er,dr,h,H=>gJ H
 | .exit _,k,er,dr,h,H=>gJ H
 | .ret,k,er,dr,h,H=>gJ H
 | .label _,k,er,dr,h,H=>gJ H
 | .goto _,k,er,dr,h,H=>gJ H
 | .loop _,k,er,dr,h,H=>gJ H
 | .rangeFunc _ _ _ _,k,er,dr,h,H=>gJ H
 | .scope _,k,er,dr,h,H=>gJ H
 | .refuse _,k,er,dr,h,H=>gJ H
theorem gp (sd:Snd P self):∀(cs:List Code) (e:E) (d:List Nat) (s:S) (o:Out),Fb self m ro cs e d s= .ok o->∀(ι:Io) (er:Env) (dr:List Deferred) (h:Heap),RE ι m e er->Sim P ι s h->DL ι d dr->RO ι ro l->WPs l P cs (CP P ι s h m o) er dr h
 |[],e,d,s,o,hd,ι,er,dr,h,re,H,D,R=>by
  cases hd;exact⟨rfl,ι,Ste.refl ..,H,re,D⟩
 |c::cs,e,d,s,o,hd,ι,er,dr,h,re,H,D,R=>by
  unfold Fb at hd;split at hd
  .rename_i G C s1 I;refine dD ?_ (sd _ _ _ _ _ _ _ I ι er dr h l re H D R);rintro x v u h' ⟨J,ι',q1,q2,q3,q4⟩;obtain rfl:x= .normal:=J;exact iQ (fun _ _ _ _ A=>A.trans H q1) cs (gp sd cs G C s1 o hd ι' v u h' q3 q2 q4 (R.mono q1.sub))
  .rename_i B;refine dD ?_ (sd _ _ _ _ _ _ _ hd ι er dr h l re H D R);intro x v u h' A;have j:o.x≠.normal:=by
    intro j;obtain⟨N,G,C,s1⟩:=o;have j:N= .normal:=j;subst j;exact B _ _ _ hd
   cases x with
   |normal=>
    have:=A.1;cases ho:o.x<;>rw[ho]at this j<;>first|exact absurd rfl j|cases this
   |_=>exact A
theorem qK (ok:Ok P p)(lb:fE P p){n:Nat}{rs:List ResultVar}{h0:Heap}{cs:List Code}(C:Ed p n m rs cs e d s):∀(ι:Io) (er:Env) (dr:List Deferred) (h:Heap),RE ι m e er->Sim P ι s h->DL ι d dr->Ste (fun _=>none) s0 h0 ι s h->
 WPs none P cs (lq P rs (fun v h'=>v= .bool true/\Ext h0 h')) er dr h:=by
 induction C with
 | @last cs e d s hl=>
   intro ι er dr h V H D Q;unfold lastB at hl;split at hl
   .rename_i x e1 d1 s1 R;simp only[aF]at hl;refine iQ ?_ cs (gp (eY ok lb n) cs e d s _ R ι er dr h V H D rfl);rintro x' j B h' ⟨N,ι',q1,q2,q3,q4⟩;have I:=hl.2;unfold U5 at I;split at I
    .rename_i sf O;have J:=rR ok (Sim.zero h0) (Q.trans (Sim.zero (P:=P) h0).fresh q1) q2 q3 q4 O;have A:oO P rs j B h' (fun v h'=>v= .bool true/\Ext h0 h'):=by
      unfold oO at J ⊢;refine⟨J.1,?_⟩;have:∀(K U:Value->Heap->Prop) (W:∀v h,K v h->U v h) (rs:List ResultVar) (u:List Value) (h:Heap),jl P rs j u K h->jl P rs j u U h:=by
       intro K U W rs;induction rs with
       |nil=>intro u h G;rw[CS]at G ⊢;exact W _ _ G
       |cons r rs ih=>
        intro u h G;cases r with
        |tmp t=>rw[uq]at G ⊢;exact ih _ _ G
        |cell a t=>
         rw[rU]at G ⊢;exact tK (fun v h' Z=>by rw[zN]at Z ⊢;exact ih _ _ Z) G
      refine this _ _ ?_ _ _ _ J.2;rintro v h' ⟨ι2,r1,r2,r3⟩;simp only[VR]at r3;exact⟨r3,⟨r1.size,fun r R=>r1.old r R fun b x N=>by cases N⟩⟩
     cases x with
     |normal=>obtain rfl:x'= .normal:=N;unfold lq;exact A
     |ret=>obtain rfl:x'= .ret:=N;unfold lq;exact A
     |_=>cases hl.1
    .cases I
   .cases hl
 | @next cs e d s e2 d2 s2 k ks bs hs C ih=>
   intro ι er dr h V H D Q;unfold seg at hs;split at hs
   .rename_i e1 d1 s1 R;simp only[Option.some.injEq,Prod.mk.injEq]at hs;obtain⟨rfl,rfl,rfl⟩:=hs;rw[<-qM k cs];refine ky _ _ (iQ ?_ _ (gp (eY ok lb n) (cs.take k) e d s _ R ι er dr h V H D rfl));rintro x j B h' ⟨N,ι',q1,q2,q3,q4⟩;obtain rfl:x= .normal:=N;have hw:=nE s1 bs (.leaf none) s1.nx s1.low fun b=> .inr (by simp[S.at,En.bU,aJ])
    have ra:RE ι' m (.leaf .any) j:=⟨q3.len,q3.fit,fun i hi=>by rw[En.bU];simp[VR]⟩;exact ih ι' j B h' (kr q3 ks _ ra) (pM q2 hw rfl) q4 ((Q.trans (Sim.zero (P:=P) h0).fresh q1).trans (Sim.zero (P:=P) h0).fresh (oK hw rfl rfl))
   .cases hs
theorem XB (ok:Ok P p)(lb:fE P p){n:Nat}{f:FuncId}{fi:FI}(hfi:p.fn f=some fi)(hn:fi.nt<=1024)(C:Ed p n ⟨gV fi.nt,fi.nt⟩ fi.res (xX fi.body) (.leaf fB) [] s0)(h:Heap):
 ak P f #[] h (fun v h'=>v= .bool true/\Ext h h'):=by
 have j:=ok.fn f fi hfi;unfold NA at j;split at j
 .rename_i fn B;split at j
  .rename_i c A;split at j
   .rename_i u;cases j;refine kJ B A u (mO c ?_);have G:=pK (ι:=fun _=>none) (vs:=[]) (us:=[]) (nt:=fn.ntmps) (by simp[VL]) (Bd _) hn;exact qK ok lb C _ _ _ h G (Sim.zero h) rfl (Ste.refl ..)
   .cases j
  .cases j
 .cases j
end pieces
end Go.Run
namespace Go.Run
open Go Go.Eng
section rows
variable {P:Program}
end rows
end Go.Run
