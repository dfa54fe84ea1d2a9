/- Lemmas. No condition. -/
import Derived.Test.YtejmkibjpaoahaaGreatDoorRunU
open Nat renaming eq_of_beq_eq_true→aC,beq→aX,le_refl→bi,ble→bn,lt_of_lt_of_le→bv,blt→kV
open Bool renaming and_eq_true→aF
open List renaming getElem?_eq_some_iff→aS,mem_cons→bP,length_cons→ed,getElem?_cons_succ→eP,mem_cons_of_mem→rO,getElem?_set→rX,nil_append→tq,getD_eq_getElem?_getD→vk,mem_cons_self→zw
set_option linter.unusedVariables false
set_option linter.unusedSimpArgs false
set_option linter.defProp false
namespace Go.Run
open Go Go.Eng
section
variable {L:List (List T)}{N:Nat}{ans:T}{b:Code}{cs:List Code}{g:FuncId}{news rows:List (Nat×VO)}{rs:List ResultVar}{t:T}{us:List Value}{v:Value}{vs:List T}{ι:Io}
noncomputable def Xq (a b:T):Bool:=Qm a b
noncomputable def Kw:List T->List T->Bool
 |[],[]=>true
 |a::l,b::m=>Xq a b&&Kw l m
 |_,_=>false
noncomputable def Vw:T->T->Bool
 | .agg a,.agg b=>Kw a b
 | .tup a,.tup b=>Kw a b
 | .func f a b,.func g c d=>eqF (.func f a b) (.func g c d)
 |a,b=>Xq a b
noncomputable def DJ:List T->List T->Bool
 |[],[]=>true
 |a::l,b::m=>Vw a b&&DJ l m
 |_,_=>false
noncomputable def Yb (a b:VO):Bool:=KX a b
noncomputable def Nh:T->Bool
 | .bool _=>true
 | .int _ _=>true
 | .str _=>true
 | .dh=>true
 | .iM=>true
 |_=>false
noncomputable def Jr:List T->Bool
 |[]=>true
 |a::l=>Nh a&&Jr l
noncomputable def Gt:T->Bool
 | .agg a=>Jr a
 | .tup a=>Jr a
 |a=>Nh a
noncomputable def jq (s:S):List (Nat×VO)->Bool
 |[]=>true
 |x::l=>(match s.at x.1 with|some o=>Yb o x.2|none=>false)&&jq s l
theorem zBx {a b:Nat}(h:aX a b=true):a=b:=aC h
theorem AP {a b:T}(h:Xq a b=true):a=b:=pF h
theorem tY:∀{a b:List T},Kw a b=true->a=b
 |[],[],_=>rfl
 |[],_::_,h=>by simp[Kw]at h
 |_::_,[],h=>by simp[Kw]at h
 |a::l,b::m,h=>by
  simp only[Kw,aF]at h;rw[AP h.1,tY h.2]
theorem oI {a b:T}(h:Vw a b=true):a=b:=by
 unfold Vw at h;split at h
 .rw[tY h]
 .rw[tY h]
 .exact jV h
 .exact AP h
theorem jM:∀{a b:List T},DJ a b=true->a=b
 |[],[],_=>rfl
 |[],_::_,h=>by simp[DJ]at h
 |_::_,[],h=>by simp[DJ]at h
 |a::l,b::m,h=>by
  simp only[DJ,aF]at h;rw[oI h.1,jM h.2]
theorem CY {a b:VO}(h:Yb a b=true):a=b/\b.am=false:=by
 have c:=ou h;refine⟨c,?_⟩;rw[<-c];unfold Yb KX at h;split at h<;>first|rfl|cases h
theorem Iw {ι':Io}(hf:Nh t=true)(h:VR ι t v):VR ι' t v:=by
 cases t<;>simp only[Nh,Bool.false_eq_true]at hf<;>simpa only[VR]using h
theorem Bh {ι ι':Io}:∀{ts:List T} {vs:List Value},Jr ts=true->VL ι ts vs->VL ι' ts vs
 |[],vs,_,h=>by simpa only[VL]using h
 |t::ts,vs,hf,h=>by
  simp only[Jr,aF]at hf;simp only[VL]at *;obtain⟨v,a,c,j,k⟩:=h;exact⟨v,a,c,Iw hf.1 j,Bh hf.2 k⟩
theorem UZ {ι':Io}(hf:Gt t=true)(h:VR ι t v):VR ι' t v:=by
 unfold Gt at hf;split at hf
 .simp only[VR]at *;obtain⟨vs,a,c⟩:=h;exact⟨vs,a,Bh hf c⟩
 .simp only[VR]at *;obtain⟨vs,a,c⟩:=h;exact⟨vs,a,Bh hf c⟩
 .exact Iw hf h
noncomputable def nZ (N:Nat)(rows:List (Nat×VO)):S:=⟨fromV rows (.leaf none),N,N⟩
theorem J9 (s:S):∀(rows:List (Nat×VO)) (V:En (Option VO)) (nx low:Nat),jq s rows=true->(∀b,(⟨V,nx,low⟩:S).at b=none\/((⟨V,nx,low⟩:S).at b=s.at b/\bZ s b=false))->∀b,(⟨fromV rows V,nx,low⟩:S).at b=none\/((⟨fromV rows V,nx,low⟩:S).at b=s.at b/\bZ s b=false)
 |[],V,nx,low,_,hV=>hV
 |x::rows,V,nx,low,hr,hV=>by
  simp only[jq,aF]at hr;obtain⟨r,w⟩:=hr;unfold fromV;rw[En.aV];refine J9 s rows _ nx low w fun b=> ?_
  cases hx:s.at x.1 with
  |none=>rw[hx]at r;cases r
  |some o=>
   rw[hx]at r;obtain⟨u,e2⟩:=CY r;have c:bn x.1 16383=true:=by
    cases j:bn x.1 16383 with
    |true=>rfl
    |false=>
     unfold S.at at hx;rw[aJ,j,if_neg (by decide)]at hx;cases hx
   have A:=aH.1 c;have j:=hV b;by_cases k:x.1=b
   .right;subst k;refine⟨?_,?_⟩
    .rw[hx];unfold S.at;rw[aJ,c,if_pos rfl,En.bT (by omega) (by omega),if_pos rfl,u]
    .unfold bZ;rw[hx,u];exact e2
   .unfold S.at at j ⊢;rw[aJ,aJ]at j ⊢;by_cases a:bn b 16383=true
    .simp only[a,if_true]at j ⊢;have y:=aH.1 a;rw[En.bT (by omega) (by omega),if_neg (fun e=>k e.symm)];exact j
    .left;simp only[a,if_false];rfl
theorem Np {s:S}(hr:jq s rows=true)(b:Nat):(nZ N rows).at b=none\/((nZ N rows).at b=s.at b/\bZ s b=false):=
 J9 s rows _ N N hr (fun b=> .inl (by
  unfold S.at;rw[aJ];split
  .rw[En.bU]
  .rfl)) b
theorem yL {P:Program}{p:Pr}{self:ae}{s s1:S}{h:Heap}(ok:Ok P p)(sd:Snd P self)(hd:qQ p self g vs (nZ N rows)= .ok (t,s1))(hlow:N<=s1.low)(hf:Gt t=true)(hm:∀b,(nZ N rows).at b=none\/((nZ N rows).at b=s.at b/\bZ s b=false))(hn:s.nx<=N)(hv:VL ι vs us)(H:Sim P ι s h):ak P g us.toArray h (Post P ι s h t s):=by
 have w:∀b,(nZ N rows).at b≠none->s.at b≠none:=fun b k=>by
  rcases hm b with j|⟨j,_⟩
  .exact absurd j k
  .rw[<-j];exact k
 have O:Sim P ι (nZ N rows) h:=⟨fun b x a=>⟨bv (H.fresh b x a).1 hn,(H.fresh b x a).2⟩,fun b c x y k R=>H.inj b c x y (w b k) (w c R),fun b o k=>by
  rcases hm b with j|⟨j,_⟩
  .rw[j]at k;cases k
  .exact H.obj b o (j▸k)⟩
 refine ak.mono (vY ok sd hd hv O) ?_;rintro v I ⟨W,G,V,C⟩;have keep:∀r,r<h.size->(∀b x,ι b=some x->x.r=r->b<N/\bZ (nZ N rows) b=false)->I[r]? =h[r]? :=fun r u k=>G.old r u fun b x a J=> .inr ⟨bv (k b x a J).1 hlow,(k b x a J).2⟩
 have A:∀b,bZ (nZ N rows) b=false:=fun b=>by
  rcases hm b with j|⟨j,B⟩
  .unfold bZ;rw[j]
  .unfold bZ at B ⊢;rw[j];exact B
 have same:∀r,r<h.size->I[r]? =h[r]? :=fun r u=>keep r u fun b x a _=>⟨bv (H.fresh b x a).1 hn,A b⟩
 refine⟨ι,⟨fun _ _ a=>a,bi _,bi _,G.size,fun _ _ a=>a,fun _ _ a=> .inl a,fun _ _ _ a=>a,fun r u _=>same r u⟩,⟨fun b x a=>⟨(H.fresh b x a).1,bv (H.fresh b x a).2 G.size⟩,H.inj,fun b o k=> ?_⟩,UZ hf C⟩;obtain⟨x,U,j,B,Q⟩:=H.obj b o k;exact⟨x,U,j,(same x.r (H.fresh b x j).2).trans B,Q⟩
theorem CK {P:Program}{p:Pr}{self:ae}{s s1:S}{h:Heap}(ok:Ok P p)(sd:Snd P self)(hd:qQ p self g vs (nZ N rows)= .ok (t,s1))(hlow:N<=s1.low)(hf:Gt t=true)(hr:jq s rows=true)(hn:s.nx<=N)(hv:VL ι vs us)(H:Sim P ι s h):ak P g us.toArray h (Post P ι s h t s):=
 yL ok sd hd hlow hf (Np hr) hn hv H
theorem Dy (s:S):∀(rows:List (Nat×VO)) (V:En (Option VO)) (nx low:Nat),(∀x∈rows,s.at x.1=some x.2/\x.2.am=false)->(∀b,(⟨V,nx,low⟩:S).at b=none\/((⟨V,nx,low⟩:S).at b=s.at b/\bZ s b=false))->∀b,(⟨fromV rows V,nx,low⟩:S).at b=none\/((⟨fromV rows V,nx,low⟩:S).at b=s.at b/\bZ s b=false)
 |[],V,nx,low,_,hV=>hV
 |x::rows,V,nx,low,hr,hV=>by
  obtain⟨j,e2⟩:=hr x (by simp);unfold fromV;rw[En.aV];refine Dy s rows _ nx low (fun y k=>hr y (by simp[k])) fun b=> ?_
  have a:bn x.1 16383=true:=by
   cases hb:bn x.1 16383 with
   |true=>rfl
   |false=>
    unfold S.at at j;rw[aJ,hb,if_neg (by decide)]at j;cases j
  by_cases c:b=x.1
  .right;subst c;refine⟨?_,?_⟩
   .rw[j,D8 _ a,if_pos rfl]
   .unfold bZ;rw[j];exact e2
  .rw[D8 _ a,if_neg c];exact hV b
theorem Tz {s:S}(hr:∀x∈rows,s.at x.1=some x.2/\x.2.am=false)(b:Nat):(nZ N rows).at b=none\/((nZ N rows).at b=s.at b/\bZ s b=false):=
 Dy s rows _ N N hr (fun b=> .inl (by
  unfold S.at;rw[aJ];split
  .rw[En.bU]
  .rfl)) b
theorem Bc {s:S}:∀{rows:List (Nat×VO)},jq s rows=true->∀x∈rows,s.at x.1=some x.2/\x.2.am=false
 |[],_,x,a=>by simp at a
 |y::rows,h,x,a=>by
  simp only[jq,aF]at h;rcases bP.1 a with rfl|a
  .have c:=h.1;split at c
   .rename_i o k;obtain⟨j,e2⟩:=CY c;exact⟨by rw[k,j],e2⟩
   .cases c
  .exact Bc h.2 x a
structure Mm where
 vs:List T
 rows:List (Nat×VO)
 ans:T
noncomputable def mmB (p:Pr)(n:Nat)(g:FuncId)(N:Nat)(x:Mm):Bool:=match qQ p (DK p n) g x.vs (nZ N x.rows)with
 | .ok (t,s)=>bn N s.low&&(Vw t x.ans&&Gt t)
 | .bad _=>false
noncomputable def zG (f:List (List T)->List T->Bool):List (List T)->List (List T)->Bool
 |_,[]=>true
 |pre,e::r=>match f (pre++r) e with|true=>zG f (pre++[e]) r|false=>false
noncomputable def permA (g:List T->Bool):Nat->List (List T)->List T->Bool
 |0,_,pre=>g pre
 |n+1,L,pre=>zG (fun L e=>permA g n L (pre++e)) [] L
theorem zAo {f:List (List T)->List T->Bool}{pre:List (List T)}:zG f pre []=true:=rfl
theorem Zf {f:List (List T)->List T->Bool}{pre r:List (List T)}{e:List T}(h:f (pre++r) e=true)(h2:zG f (pre++[e]) r=true):zG f pre (e::r)=true:=by
 unfold zG;rw[h];exact h2
theorem YN {g:List T->Bool}{n:Nat}{pre:List T}(h:zG (fun L e=>permA g n L (pre++e)) [] L=true):permA g (n+1) L pre=true:=h
theorem JB {f:List (List T)->List T->Bool}{e:List T}{b:List (List T)}:∀{a pre:List (List T)},zG f pre (a++e::b)=true->f (pre++a++b) e=true
 |[],pre,h=>by
  simp only[tq]at h;unfold zG at h;split at h
  .rename_i c;simpa using c
  .cases h
 |x::a,pre,h=>by
  simp only[List.cons_append]at h;unfold zG at h;split at h
  .have:=JB h;simpa using this
  .cases h
theorem Ca {g:List T->Bool}:∀{n:Nat} {L els:List (List T)} {pre:List T},permA g n L pre=true->L.length=n->List.Perm els L->g (pre++els.flatten)=true
 |0,L,els,pre,h,hl,hp=>by
  have c:L=[]:=List.length_eq_zero_iff.1 hl;subst c;have j:els=[]:=List.Perm.eq_nil hp;subst j;simpa[permA]using h
 |n+1,L,els,pre,h,hl,hp=>by
  cases els with
  |nil=>
   have:=hp.length_eq;simp at this;omega
  |cons e r=>
   have k:e∈L:=hp.mem_iff.1 (by simp);obtain⟨a,b,rfl⟩:=List.append_of_mem k;have u:List.Perm r (a++b):=(List.perm_cons e).1 (hp.trans List.perm_middle);have c:=JB (a:=a) (pre:=[]) h;simp only[tq]at c;have:=Ca c (by simp at hl ⊢;omega) u;rw[List.flatten_cons,<-List.append_assoc];exact this
noncomputable def Nt (b:Nat):List (Nat×VO)->Bool
 |[]=>true
 |x::l=> !(aX x.1 b)&&Nt b l
theorem DZ {b:Nat}:∀{l:List (Nat×VO)},Nt b l=true->∀x∈l,x.1≠b
 |[],_,x,a=>by simp at a
 |y::l,h,x,a=>by
  simp only[Nt,aF,Bool.not_eq_true']at h;rcases bP.1 a with rfl|a
  .intro e;rw[e,Nat.beq_refl]at h;cases h.1
  .exact DZ h.2 x a
noncomputable def zAl (N:Nat)(vs:List T)(b:Nat)(ct:TypeId)(L:List (List T))(rows:List (Nat×VO))(ans:T):List T->S->Option T:=fun ws s=>
 match DJ ws vs&&(bn s.nx N&&(jq s rows&&Nt b rows))with
 |true=>(match s.at b with
  |some (.bag els u)=>(match aX u ct&&MQ els L with|true=>some ans|false=>none)
  |_=>none)
 |false=>none
theorem Xx {P:Program}{p:Pr}{n:Nat}{b:Nat}{ct:TypeId}(ok:Ok P p)(lb:fE P p)(hall:permA (fun cs=>mmB p n g N ⟨vs,(b,.row cs ct true)::rows,ans⟩) L.length L []=true):
 ∀ws s t,zAl N vs b ct L rows ans ws s=some t->∀ι us h,VL ι ws us->Sim P ι s h->ak P g us.toArray h (Post P ι s h t s):=by
 intro ws s t B ι us h hv H;unfold zAl at B;split at B
 .rename_i C;simp only[aF]at C;obtain⟨k1,k2,k3,k4⟩:=C;split at B
  .rename_i els u I;split at B
   .rename_i hq;simp only[aF]at hq;cases B;obtain rfl:=aC hq.1;obtain rfl:=tu hq.2;obtain⟨y,ob,g1,g2,O,cur,p1,p2,p3,p4,p5,p6,p7⟩:=H.obj _ _ I;have A:=Ca hall rfl p1;rw[tq]at A;have Z:b<=16383:=by
     unfold S.at at I;rw[aJ]at I;split at I
     .rename_i hh;exact aH.1 hh
     .cases I
    have j:∀c,(dX s b (.row O.flatten u true)).at c=if c=b then some (.row O.flatten u true)else s.at c:=fun c=>by
     rw[vR];simp only[Z,true_and]
    have w:(dX s b (.row O.flatten u true)).nx=s.nx:=by unfold dX bG;rw[aJ];split<;>simp[En.aV]
    have Q:(dX s b (.row O.flatten u true)).low=s.low:=by unfold dX bG;rw[aJ];split<;>simp[En.aV]
    generalize dX s b (.row O.flatten u true)=V at j w Q;have k:∀c,V.at c≠none->s.at c≠none:=fun c C=>by
     by_cases a:c=b
     .subst a;rw[I];simp
     .rw[j,if_neg a]at C;exact C
    have G:∀c,s.at c≠none->V.at c≠none:=fun c C=>by
     by_cases a:c=b
     .subst a;rw[j,if_pos rfl];simp
     .rw[j,if_neg a];exact C
    have amr:∀c,bZ V c=bZ s c:=fun c=>by
     unfold bZ;by_cases a:c=b
     .subst a;rw[I,j,if_pos rfl];rfl
     .rw[j,if_neg a]
    have Hr:Sim P ι V h:=⟨fun c y U=>by rw[w];exact H.fresh c y U,fun c d y z C B=>H.inj c d y z (k c C) (k d B),fun c o J=>by
     by_cases a:c=b
     .subst a;rw[j,if_pos rfl]at J;cases J;exact⟨y,ob,g1,g2,cur,p2,p3,p4,fun h=>(by cases h),fun _=>⟨p5,p6,p7⟩⟩
     .rw[j,if_neg a]at J;exact H.obj c o J⟩
    have R:∀x∈(b,VO.row O.flatten u true)::rows,V.at x.1=some x.2/\x.2.am=false:=fun x A=>by
     rcases bP.1 A with rfl|A
     .exact⟨by rw[j,if_pos rfl],rfl⟩
     .rw[j,if_neg (DZ k4 x A)];exact Bc k3 x A
    unfold mmB at A;split at A
    .rename_i t s1 hr;simp only[aF]at A;rw[jM k1]at hv;rw[<-oI A.2.1];refine ak.mono (yL ok (eY ok lb n) hr (aH.1 A.1) A.2.2 (Tz R) (by rw[w];exact aH.1 k2) hv Hr) ?_;rintro v h' ⟨ι',q1,q2,q3⟩;refine⟨ι',⟨q1.sub,bi _,bi _,q1.size,fun _ _ h=>h,fun c y U=> ?_,fun _ _ _ h=>h,fun r hr2 hcc=>q1.old r hr2 fun c y U he=> ?_⟩,⟨fun c y U=>by rw[<-w];exact q2.fresh c y U,fun c d y z C B=>q2.inj c d y z (G c C) (G d B),fun c o J=> ?_⟩,q3⟩
     .rcases q1.grow c y U with g|⟨g,g'|⟨d,z,e1,e2,e3,e4⟩⟩
      .exact .inl g
      .exact .inr ⟨by rw[<-w];exact g,.inl g'⟩
      .exact .inr ⟨by rw[<-w];exact g,.inr ⟨d,z,e1,e2,by rw[<-Q];exact e3,k d e4⟩⟩
     .rcases hcc c y U he with g|⟨g,g'⟩
      .left;cases hz:V.at c with
       |none=>rfl
       |some o=>exact absurd g (k c (by rw[hz];simp))
      .exact .inr ⟨by rw[Q];exact g,by rw[amr];exact g'⟩
     .by_cases a:c=b
      .subst a;rw[I]at J;cases J;obtain⟨z,ob2,e1,e2,W,e3,e4,e5,_,e7⟩:=q2.obj c (.row O.flatten u true) (by rw[j,if_pos rfl]);obtain⟨f1,f2,f3⟩:=e7 rfl;exact⟨z,ob2,e1,e2,O,W,p1,e3,e4,e5,f1,f2,f3⟩
      .exact q2.obj c o (by rw[j,if_neg a];exact J)
    .cases A
   .cases B
  .cases B
 .cases B
abbrev Ans:=List T->S->Option (T×S)
noncomputable def U4 (p:Pr)(mem:Nat->Option Ans):Pr:=⟨p.ty,p.fn,p.lib,p.ext,mem⟩
theorem zAy {P:Program}{p:Pr}(ok:Ok P p)(mem:Nat->Option Ans):Ok P (U4 p mem):=⟨ok.ext,ok.ty,ok.fn,ok.mixed⟩
theorem Sr {P:Program}{p:Pr}(lb:fE P p){mem:Nat->Option Ans}(hm:∀g f vs s t s',mem g=some f->f vs s=some (t,s')->∀ι us h,VL ι vs us->Sim P ι s h->ak P g us.toArray h (Post P ι s h t s')):fE P (U4 p mem):=⟨lb.lib,hm⟩
theorem SE {P:Program}{s:S}{h h':Heap}(H:Sim P ι s h)(x:Ext h h')(hv:VR ι t v):Post P ι s h t s v h':=
 ⟨ι,⟨fun _ _ a=>a,bi _,bi _,x.size,fun _ _ a=>a,fun _ _ a=> .inl a,fun _ _ _ a=>a,fun r A _=>x.old r A⟩,⟨fun b y j=>⟨(H.fresh b y j).1,bv (H.fresh b y j).2 x.size⟩,H.inj,fun b o w=>by
  obtain⟨y,B,c,k,u⟩:=H.obj b o w;exact⟨y,B,c,(x.old y.r (H.fresh b y c).2).trans k,u⟩⟩,hv⟩
noncomputable def memT:List T->S->Option T
 |[],_=>some (.bool true)
 |_::_,_=>none
theorem YL {P:Program}(W:∀h,ak P g #[] h (fun v h'=>v= .bool true/\Ext h h')):∀vs s t,memT vs s=some t->∀ι us h,VL ι vs us->Sim P ι s h->ak P g us.toArray h (Post P ι s h t s):=by
 intro vs s t c ι us h j H;cases vs with
 |nil=>
  cases c;simp only[VL]at j;subst j;refine ak.mono (W h) ?_;rintro v h' ⟨rfl,x⟩;exact SE H x (by simp only[VR])
 |cons a l=>cases c
def OH (P:Program)(g:FuncId)(f:List T->S->Option T):Prop:=∀vs s t,f vs s=some t->∀ι us h,VL ι vs us->Sim P ι s h->ak P g us.toArray h (Post P ι s h t s)
def vS (P:Program)(g:FuncId)(f:Ans):Prop:=∀vs s t s',f vs s=some (t,s')->∀ι us h,VL ι vs us->Sim P ι s h->ak P g us.toArray h (Post P ι s h t s')
noncomputable def XR (f:List T->S->Option T):Ans:=fun vs s=>match f vs s with|some t=>some (t,s)|none=>none
theorem zBG {P:Program}{f:List T->S->Option T}(hf:OH P g f):vS P g (XR f):=by
 intro vs s t c a;unfold XR at a;split at a
 .rename_i h;cases a;exact hf vs s _ h
 .cases a
noncomputable def GN:List (Nat×Ans)->Nat->Option Ans
 |[],_=>none
 |x::l,g=>ite (aX x.1 g) (some x.2) (GN l g)
theorem uZ {P:Program}:∀(l:List (Nat×Ans)),(∀x∈l,vS P x.1 x.2)->∀g f,GN l g=some f->vS P g f
 |[],_,g,f,h=>by cases h
 |x::l,hl,g,f,h=>by
  unfold GN at h;rw[aJ]at h;split at h
  .rename_i a;cases h;rw[<-zBx a];exact hl x zw
  .exact uZ l (fun y c=>hl y (rO _ c)) g f h
theorem Zc {P:Program}{p:Pr}(lb:fE P p)(l:List (Nat×Ans))(hl:∀x∈l,vS P x.1 x.2):fE P (U4 p (GN l)):=
 Sr lb fun g f vs s t j c a=>uZ l hl g f c vs s t j a
structure Mr where
 vs:List T
 rows:List (Nat×VO)
 ans:T
 news:List (Nat×VO)
noncomputable def Cb (K N:Nat)(L:List Nat)(b:Nat):Option Nat:=match kV b K with
 |true=>some b
 |false=>(match kV b N with|true=>none|false=>PY b L K)
noncomputable def jX (s:S)(o:Option VO):S:=dP (Nat.succ s.nx) fun n=>bG s s.nx o n s.low
noncomputable def nU (ρ:Nat->Option Nat):List (Nat×VO)->S->S
 |[],s=>s
 |x::l,s=>match wh ρ x.2 with
  |some o=>nU ρ l (jX s (some o))
  |none=>nU ρ l (jX s none)
noncomputable def jB:List (Nat×VO)->List Nat
 |[]=>[]
 |x::l=>x.1::jB l
noncomputable def V7 (N:Nat):List Mr->Ans
 |[],_,_=>none
 |x::l,vs,s=>match DJ vs x.vs&&(jq s x.rows&&bn s.nx N)with
  |true=>some (IW (Cb s.nx N (jB x.news)) x.ans,nU (Cb s.nx N (jB x.news)) x.news s)
  |false=>V7 N l vs s
noncomputable def Ce (N:Nat)(s:S):List (Nat×VO)->Bool
 |[]=>true
 |x::l=>bn N x.1&&((match s.at x.1 with|some o=>KX o x.2|none=>false)&&Ce N s l)
noncomputable def mrB (p:Pr)(n:Nat)(g:FuncId)(N:Nat)(x:Mr):Bool:=match qQ p (DK p n) g x.vs (nZ N x.rows)with
 | .ok (t,s)=>bn N s.low&&(eqV t x.ans&&(nodupB (jB x.news)&&Ce N s x.news))
 | .bad _=>false
theorem AX:∀{l:List (Nat×VO)} {i b:Nat},(jB l)[i]? =some b->∃o,l[i]? =some (b,o)
 |[],i,b,h=>by simp[jB]at h
 |x::l,0,b,h=>by simp only[jB,List.getElem?_cons_zero,Option.some.injEq]at h;subst h;exact⟨x.2,rfl⟩
 |x::l,i+1,b,h=>by
  simp only[jB,eP]at h ⊢;exact AX h
theorem Gn:∀(l:List (Nat×VO)),(jB l).length=l.length
 |[]=>rfl
 |x::l=>by simp only[jB,ed,Gn l]
theorem tQ {N:Nat}{s:S}:∀{l:List (Nat×VO)},Ce N s l=true->∀x∈l,N<=x.1/\s.at x.1=some x.2
 |[],_,x,a=>by simp at a
 |y::l,h,x,a=>by
  simp only[Ce,aF]at h;rcases bP.1 a with rfl|a
  .refine⟨aH.1 h.1,?_⟩;have c:=h.2.1;split at c
   .rename_i o j;rw[j,ou c]
   .cases c
  .exact tQ h.2.2 x a
theorem QQ (s:S)(o:Option VO)(c:Nat):(jX s o).at c=(if s.nx<=16383/\c=s.nx then o else s.at c)/\(jX s o).nx=s.nx+1/\(jX s o).low=s.low:=by
 unfold jX;rw[dR];refine⟨bO s s.nx c o _ _,?_,?_⟩
 .unfold bG;rw[aJ];split<;>simp[En.aV]
 .unfold bG;rw[aJ];split<;>simp[En.aV]
theorem Oi (ρ:Nat->Option Nat):∀(l:List (Nat×VO)) (s:S) (c:Nat),(c<s.nx->(nU ρ l s).at c=s.at c)/\
 (s.nx<=c->c<s.nx+l.length->(nU ρ l s).at c=none\/∃b o,l[c-s.nx]? =some (b,o)/\(nU ρ l s).at c=wh ρ o)/\(s.nx+l.length<=c->(nU ρ l s).at c=s.at c)/\(nU ρ l s).nx=s.nx+l.length/\(nU ρ l s).low=s.low
 |[],s,c=>⟨fun _=>rfl,fun O A=>by simp at A;omega,fun _=>rfl,rfl,rfl⟩
 |x::l,s,c=>by
  have j:∀o,wh ρ x.2=o->(c<s.nx->(nU ρ l (jX s o)).at c=s.at c)/\
   (s.nx<=c->c<s.nx+(x::l).length->(nU ρ l (jX s o)).at c=none\/∃b k,(x::l)[c-s.nx]? =some (b,k)/\(nU ρ l (jX s o)).at c=wh ρ k)/\(s.nx+(x::l).length<=c->(nU ρ l (jX s o)).at c=s.at c)/\(nU ρ l (jX s o)).nx=s.nx+(x::l).length/\(nU ρ l (jX s o)).low=s.low:=fun o a=>by
   obtain⟨y,R,U⟩:=QQ s o c;obtain⟨w,G,H,I,J⟩:=Oi ρ l (jX s o) c;rw[R]at w G H I;rw[U]at J;rw[ed];refine⟨fun h=> ?_,fun O A=> ?_,fun h=> ?_,by rw[I];omega,J⟩
   .rw[w (by omega),y,if_neg (by omega)]
   .by_cases C:c=s.nx
    .rw[w (by omega),y];by_cases B:s.nx<=16383
     .rw[if_pos ⟨B,C⟩];exact .inr ⟨x.1,x.2,by rw[C];simp,a.symm⟩
     .left;rw[if_neg (fun u=>B u.1)];unfold S.at;rw[aJ,if_neg];intro u;have:=aH.1 u;omega
    .rcases G (by omega) (by omega)with r|⟨b,k,r,Q⟩
     .exact .inl r
     .refine .inr ⟨b,k,?_,Q⟩;rw[show c-s.nx=(c-(s.nx+1))+1 by omega,eP];exact r
   .rw[H (by omega),y,if_neg (by omega)]
  unfold nU;split
  .rename_i o a;exact j _ a
  .rename_i a;exact j _ a
def HC (P:Program)(g:FuncId)(N:Nat)(x:Mr):Prop:=∀(ι:Io) (us:List Value) (h:Heap),VL ι x.vs us->Sim P ι (nZ N x.rows) h->
 ak P g us.toArray h (fun v h'=>∃s1,N<=s1.low/\(jB x.news).Nodup/\(∀y∈x.news,N<=y.1/\s1.at y.1=some y.2)/\Post P ι (nZ N x.rows) h x.ans s1 v h')
theorem Lb {P:Program}{s:S}{h:Heap}(hc:HC P g N ⟨vs,rows,t,news⟩)(hr:jq s rows=true)(hn:s.nx<=N)(hv:VL ι vs us)(H:Sim P ι s h):
 ak P g us.toArray h (Post P ι s h (IW (Cb s.nx N (jB news)) t) (nU (Cb s.nx N (jB news)) news s)):=by
 have hm:=Np (N:=N) hr;have W:∀b,(nZ N rows).at b≠none->s.at b≠none:=fun b u=>by
  rcases hm b with a|⟨a,_⟩
  .exact absurd a u
  .rw[<-a];exact u
 have H1:Sim P ι (nZ N rows) h:=⟨fun b x j=>⟨bv (H.fresh b x j).1 hn,(H.fresh b x j).2⟩,fun b c x y u hc=>H.inj b c x y (W b u) (W c hc),fun b o u=>by
  rcases hm b with a|⟨a,_⟩
  .rw[a]at u;cases u
  .exact H.obj b o (a▸u)⟩
 refine ak.mono (hc ι us h hv H1) ?_;rintro v h' ⟨s1,hlow,hnd,J,ι1,st,sm,hv'⟩;simp only at hnd J hv';have noAm:∀b,bZ (nZ N rows) b=false:=fun b=>by
  rcases hm b with a|⟨a,Q⟩
  .unfold bZ;rw[a]
  .unfold bZ at Q ⊢;rw[a];exact Q
 have same:∀r,r<h.size->h'[r]? =h[r]? :=fun r hr2=>st.old r hr2 fun b x j he=> .inr ⟨bv (bv (H.fresh b x j).1 hn) hlow,noAm b⟩
 have A:∀b x,ι1 b=some x->ι b=some x\/(N<=b/\h.size<=x.r):=fun b x j=>by
  rcases st.grow b x j with a|⟨a,Q|⟨c,y,Q,h3,h4,h5⟩⟩
  .exact .inl a
  .exact .inr ⟨a,Q⟩
  .have:=(H.fresh c y Q).1;omega
 have hL:∀k b,(jB news)[k]? =some b->N<=b/\∃o,news[k]? =some (b,o)/\s1.at b=some o:=fun k b hk=>by
  obtain⟨o,ho⟩:=AX hk;have:=J (b,o) (List.mem_of_getElem? ho);exact⟨this.1,o,ho,this.2⟩
 obtain⟨Z,hι2⟩:∃Z:Io,Z=fun c=>if c<s.nx then ι c else match(jB news)[c-s.nx]? with|some b=>ι1 b|none=>none:=⟨_,rfl⟩
 have B:∀c,c<s.nx->Z c=ι c:=fun c hc=>by rw[hι2];simp only[hc,if_true]
 have I:∀c x,s.nx<=c->Z c=some x->∃b,(jB news)[c-s.nx]? =some b/\ι1 b=some x:=fun c x hc j=>by
  rw[hι2]at j;simp only[show¬c<s.nx by omega,if_false]at j;split at j
  .rename_i b u;exact⟨b,u,j⟩
  .cases j
 have hi3:∀c b,s.nx<=c->(jB news)[c-s.nx]? =some b->Z c=ι1 b:=fun c b hc u=>by
  rw[hι2];simp only[show¬c<s.nx by omega,if_false,u]
 have hρ:∀b c,Cb s.nx N (jB news) b=some c->Z c=ι1 b:=fun b c C=>by
  unfold Cb at C;split at C
  .rename_i u;cases C;have u:=bX.1 u;rw[B _ u];cases hq:ι b with
   |some x=>exact(st.sub _ _ hq).symm
   |none=>
    cases hq1:ι1 b with
    |none=>rfl
    |some x=>
     rcases A b x hq1 with a|⟨a,_⟩
     .rw[hq]at a;cases a
     .omega
  .split at C
   .cases C
   .obtain⟨a,Q⟩:=FC C;exact hi3 c b a Q
 have O:Sub ι Z:=fun b x j=>by rw[B b (H.fresh b x j).1];exact j
 have flen:=Gn news;have G:=Oi (Cb s.nx N (jB news)) news s;have hnx:=(G 0).2.2.2.1;have hlw:=(G 0).2.2.2.2;have V:∀c v,(nU (Cb s.nx N (jB news)) news s).at c=some v->(c<s.nx/\s.at c=some v)\/(s.nx<=c/\∃b o,(jB news)[c-s.nx]? =some b/\s1.at b=some o/\wh (Cb s.nx N (jB news)) o=some v):=fun c v hv=>by
  obtain⟨a1,a2,a3,_,_⟩:=G c;by_cases a:c<s.nx
  .rw[a1 a]at hv;exact .inl ⟨a,hv⟩
  .by_cases Q:c<s.nx+news.length
   .rcases a2 (by omega) Q with h3|⟨b,o,h3,h4⟩
    .rw[h3]at hv;cases hv
    .rw[h4]at hv;have u:(jB news)[c-s.nx]? =some b:=by
      have hlt:c-s.nx<(jB news).length:=by omega
      obtain⟨b',hb'⟩:∃b',(jB news)[c-s.nx]? =some b':=⟨_,List.getElem?_eq_getElem hlt⟩;obtain⟨o',ho'⟩:=AX hb';rw[h3]at ho';cases ho';exact hb'
     obtain⟨_,o',R,g2⟩:=hL _ _ u;rw[h3]at R;cases R;exact .inr ⟨by omega,b,o,u,g2,hv⟩
   .rw[a3 (by omega)]at hv;obtain⟨y,ob,R,_⟩:=H.obj c v hv;have:=(H.fresh c y R).1;omega
 refine⟨Z,⟨O,by rw[hnx];omega,by rw[hlw];exact bi _,st.size,fun b u hz=>by rw[(G b).1 u];exact hz,fun c x j=> ?_,fun b x j hz=> ?_,fun r hr _=>same r hr⟩,⟨fun c x j=> ?_,fun c d x y hc hd2 j hy he=> ?_,fun c v hv=> ?_⟩,?_⟩
 .by_cases hc:c<s.nx
  .rw[B c hc]at j;exact .inl j
  .obtain⟨b,u,w⟩:=I c x (by omega) j;obtain⟨hNb,_⟩:=hL _ _ u;rcases A b x w with a|⟨_,a⟩
   .have:=(H.fresh b x a).1;omega
   .exact .inr ⟨by omega,.inl a⟩
 .have u:=(H.fresh b x j).1;unfold bZ at hz ⊢;rw[(G b).1 u]at hz;exact hz
 .rw[hnx];by_cases hc:c<s.nx
  .rw[B c hc]at j;exact⟨by omega,bv (H.fresh c x j).2 st.size⟩
  .obtain⟨b,u,w⟩:=I c x (by omega) j;have:=(aS.1 u).1;exact⟨by omega,(sm.fresh b x w).2⟩
 .cases hvc:(nU (Cb s.nx N (jB news)) news s).at c with
  |none=>exact absurd hvc hc
  |some vc=>
   cases hvd:(nU (Cb s.nx N (jB news)) news s).at d with
   |none=>exact absurd hvd hd2
   |some vd=>
    rcases V c vc hvc with⟨c1,c2⟩|⟨c1,b,o,c2,c3,_⟩
    .rw[B c c1]at j;rcases V d vd hvd with⟨d1,d2⟩|⟨d1,b',o',d2,d3,_⟩
     .rw[B d d1]at hy;exact H.inj c d x y (by rw[c2];simp) (by rw[d2];simp) j hy he
     .obtain⟨b2,w,U⟩:=I d y d1 hy;rw[d2]at w;cases w;have:=hL _ _ d2;rcases A b' y U with a|⟨_,a⟩
      .have:=(H.fresh b' y a).1;omega
      .have:=(H.fresh c x j).2;omega
    .obtain⟨b2,w,U⟩:=I c x c1 j;rw[c2]at w;cases w;have hNb:=(hL _ _ c2).1;rcases V d vd hvd with⟨d1,d2⟩|⟨d1,b',o',d2,d3,_⟩
     .rw[B d d1]at hy;rcases A b x U with a|⟨_,a⟩
      .have:=(H.fresh b x a).1;omega
      .have:=(H.fresh d y hy).2;omega
     .obtain⟨b4,hb4,hb5⟩:=I d y d1 hy;rw[d2]at hb4;cases hb4;have heq:=sm.inj b b' x y (by rw[c3];simp) (by rw[d3];simp) U hb5 he;subst heq;have hlen:=(aS.1 c2).1;have:=(List.getElem?_inj hlen hnd).1 (c2.trans d2.symm);omega
 .rcases V c v hv with⟨c1,c2⟩|⟨c1,b,o,c2,c3,c4⟩
  .obtain⟨y,ob,R,g2,g3⟩:=H.obj c v c2;exact⟨y,ob,O _ _ R,(same y.r (H.fresh c y R).2).trans g2,OR.mono O g3⟩
  .obtain⟨y,ob,R,g2,g3⟩:=sm.obj b o c3;exact⟨y,ob,by rw[hi3 c b c1 c2];exact R,g2,GR hρ c4 g3⟩
 .exact vU hρ hv'
theorem YQ {P:Program}{p:Pr}{n:Nat}{x:Mr}(ok:Ok P p)(lb:fE P p)(hx:mrB p n g N x=true):HC P g N x:=by
 intro ι us h j H;unfold mrB at hx;split at hx
 .rename_i t k c;simp only[aF]at hx;refine ak.mono (vY ok (eY ok lb n) c j H) fun v r a=> ?_
  rw[rJ hx.2.1]at a;exact⟨k,aH.1 hx.1,kQ hx.2.2.1,tQ hx.2.2.2,a⟩
 .cases hx
theorem BV {P:Program}{g:FuncId}{N:Nat}:∀(l:List Mr),(∀x∈l,HC P g N x)->vS P g (V7 N l)
 |[],_,vs,s,t,s',hd,_,_,_,_,_=>by cases hd
 |x::l,hl,vs,s,t,s',hd,ι,us,h,hv,H=>by
  unfold V7 at hd;split at hd
  .rename_i a;simp only[aF]at a;obtain⟨c,j,k⟩:=a;cases hd;rw[jM c]at hv;exact Lb (hl x zw) j (aH.1 k) hv H
  .exact BV l (fun y r=>hl y (rO _ r)) vs s t s' hd ι us h hv H
theorem YM {P:Program}{p:Pr}{n:Nat}(ok:Ok P p)(lb:fE P p)(l:List Mr)(hl:∀x∈l,mrB p n g N x=true):vS P g (V7 N l):=
 BV l fun x a=>YQ ok lb (hl x a)
inductive Fr where
 |blk (i:Nat) (cs:List Code)
 |lp (b:Code) (n:Nat)
noncomputable def unwind:Ex->List Fr->Option (List Code×List Fr)
 |_,[]=>none
 | .normal,.blk _ cs::st=>some (cs,st)
 | .normal,.lp b (n+1)::st=>some (xX b,.lp b n::st)
 | .exit j,.blk i cs::st=>(match aX j i with|true=>some (cs,st)|false=>unwind (.exit j) st)
 | .exit j,.lp _ _::st=>unwind (.exit j) st
 |_,_::_=>none
noncomputable def Px (p:Pr)(n:Nat)(m:Fm)(cs:List Code)(ks bs:List Nat)(e:E)(d:List Nat)(s:S):Option (Ex×E×List Nat×S):=
 match Fb (DK p n) m none cs e d s with
 | .ok ⟨x,e,d,s⟩=>some (x,lM m ks e (.leaf .any),d,⟨nD bs s (.leaf none),s.nx,s.low⟩)
 |_=>none
noncomputable def Wx (p:Pr)(n:Nat)(m:Fm)(rs:List ResultVar)(cs:List Code)(ans:T)(news:List (Nat×VO))(N:Nat)(e:E)(d:List Nat)(s:S):Bool:=
 match Fb (DK p n) m none cs e d s with
 | .ok ⟨x,e,d,s⟩=>(match x with
   | .ret=>(match EN p m rs e d s with
     | .ok (t,s)=>bn N s.low&&(eqV t ans&&(nodupB (jB news)&&Ce N s news))
     | .bad _=>false)
   |_=>false)
 |_=>false
inductive ChR (p:Pr)(n:Nat)(m:Fm)(rs:List ResultVar)(ans:T)(news:List (Nat×VO))(N:Nat):List Code->List Fr->E->List Nat->S->Prop
 |last {cs st e d s}:Wx p n m rs cs ans news N e d s=true->ChR p n m rs ans news N cs st e d s
 |run {cs st e d s e2 d2 s2} (k:Nat) (ks bs:List Nat):Px p n m (cs.take k) ks bs e d s=some (.normal,e2,d2,s2)->ChR p n m rs ans news N (cs.drop k) st e2 d2 s2->ChR p n m rs ans news N cs st e d s
 |stop {cs st e d s x e2 d2 s2 cs2 st2} (ks bs:List Nat):Px p n m cs ks bs e d s=some (x,e2,d2,s2)->unwind x st=some (cs2,st2)->ChR p n m rs ans news N cs2 st2 e2 d2 s2->ChR p n m rs ans news N cs st e d s
 |open_ {i b cs st e d s}:ChR p n m rs ans news N (xX b) (.blk i cs::st) e d s->ChR p n m rs ans news N (.block i b::cs) st e d s
 |loop {b cs st e d s} (k:Nat):ChR p n m rs ans news N (xX b) (.lp b k::st) e d s->ChR p n m rs ans news N (.loop b::cs) st e d s
theorem ChR.op {p:Pr}{n:Nat}{m:Fm}{i:Nat}{cs0:List Code}{st:List Fr}{e:E}{d:List Nat}{s:S}(h:cs0= .block i b::cs)(C:ChR p n m rs ans news N (xX b) (.blk i cs::st) e d s):ChR p n m rs ans news N cs0 st e d s:=by
 rw[h];exact .open_ C
noncomputable def il:List Int->List T:=List.rec (motive:=fun _=>List T) [] (fun n _ ih=> .int .i64 n::ih)
end
section good
variable {P:Program}{p:Pr}{n:Nat}{m:Fm}{e e2:E}{d d2:List Nat}{s s2:S}{h0 h:Heap}{er:Env}{dr:List Deferred}
section
variable {K:aj}{cs:List Code}{q:Nat}
def Good (P:Program)(m:Fm)(e:E)(d:List Nat)(s:S)(h0:Heap)(er:Env)(dr:List Deferred)(h:Heap):Prop:=∃ι,RE ι m e er/\Sim P ι s h/\DL ι d dr/\Ste (fun _=>none) s0 h0 ι s h
theorem Good.ext (G:Good P m e d s h0 er dr h):Ext h0 h:=by
 obtain⟨ι,_,_,_,q⟩:=G;exact⟨q.size,fun r a=>q.old r a fun b x c=>by cases c⟩
theorem Good.start {vs:List T}{us:List Value}{nt:Nat}(hv:VL (fun _=>none) vs us)(hl:vs.length<=nt)(hn:nt<=1024):Good P ⟨gV nt,nt⟩ (pg ⟨gV nt,nt⟩ vs 0 (.leaf fB) id) [] s0 h0 (us++List.replicate (nt-us.length) undef) [] h0:=
 ⟨_,pK hv hl hn,Sim.zero h0,rfl,Ste.refl ..⟩
theorem Good.int (G:Good P m e d s h0 er dr h){t:Nat}(ht:t<m.n){k:IntKind}{z:Int}(hz:En.get (Pa.of m.dp t) e= .int k z):er.getD t undef= .int k z:=by
 obtain⟨ι,a,_⟩:=G;have:=a.get t ht;rw[hz]at this;simpa only[VR]using this
theorem Good.bool (G:Good P m e d s h0 er dr h){t:Nat}(ht:t<m.n){b:Bool}(hz:En.get (Pa.of m.dp t) e= .bool b):er.getD t undef= .bool b:=by
 obtain⟨ι,a,_⟩:=G;have:=a.get t ht;rw[hz]at this;simpa only[VR]using this
theorem Good.put (G:Good P m e d s h0 er dr h){v:T}{u:Value}(hq:q<m.n)(hv:∀ι,VR ι v u):Good P m (En.set (Pa.of m.dp q) v e) d s h0 (er.set q u) dr h:=by
 obtain⟨ι,c,r⟩:=G;have k:=c.fit;refine⟨ι,⟨by rw[List.length_set];exact c.len,c.fit,fun i j=> ?_⟩,r⟩;rw[En.bT (by omega) (by omega)];by_cases a:i=q
 .subst a;rw[if_pos rfl,vk,rX,if_pos rfl,if_pos (by rw[c.len];exact j)];exact hv ι
 .rw[if_neg a,vk,rX,if_neg (fun h=>a h.symm),<-vk];exact c.get i j
theorem Good.len (G:Good P m e d s h0 er dr h):er.length=m.n:=by
 obtain⟨ι,a,_⟩:=G;exact a.len
theorem Good.fF (G:Good P m e d s h0 er dr h){u:Value}(hq:q<m.n):Good P m (En.set (Pa.of m.dp q) .any e) d s h0 (er.set q u) dr h:=G.put hq fun ι=>by simp only[VR]
end
end good
end Go.Run
