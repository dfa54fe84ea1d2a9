/- Lemmas. No condition. -/
import Derived.Test.YtejmkibjpaoahaaGreatDoorRunU
set_option linter.unusedVariables false
set_option linter.unusedSimpArgs false
set_option linter.defProp false
namespace Go.Run
open Go Go.Eng
section
variable {L:List (List T)}{N:Nat}{ans:T}{b:Code}{cs:List Code}{g:FuncId}{news rows:List (Nat×VO)}{rs:List ResultVar}{t:T}{us:List Value}{v:Value}{vs:List T}{ι:Io}
noncomputable def Xq (a b:T):Bool:=Qm a b
noncomputable def Kw:List T->List T->Bool
 |[],[]=>true
 |a::l,b::m=>Xq a b&&Kw l m
 |_,_=>false
noncomputable def Vw:T->T->Bool
 | .agg a,.agg b=>Kw a b
 | .tup a,.tup b=>Kw a b
 | .func f a b,.func g c d=>eqF (.func f a b) (.func g c d)
 |a,b=>Xq a b
noncomputable def DJ:List T->List T->Bool
 |[],[]=>true
 |a::l,b::m=>Vw a b&&DJ l m
 |_,_=>false
noncomputable def Yb (a b:VO):Bool:=KX a b
noncomputable def Nh:T->Bool
 | .bool _=>true
 | .int _ _=>true
 | .str _=>true
 | .dh=>true
 | .iM=>true
 |_=>false
noncomputable def Jr:List T->Bool
 |[]=>true
 |a::l=>Nh a&&Jr l
noncomputable def Gt:T->Bool
 | .agg a=>Jr a
 | .tup a=>Jr a
 |a=>Nh a
noncomputable def jq (s:S):List (Nat×VO)->Bool
 |[]=>true
 |x::l=>(match s.at x.1 with|some o=>Yb o x.2|none=>false)&&jq s l
theorem zBx {a b:Nat}(h:Nat.beq a b=true):a=b:=Nat.eq_of_beq_eq_true h
theorem AP {a b:T}(h:Xq a b=true):a=b:=pF h
theorem tY:∀{a b:List T},Kw a b=true->a=b
 |[],[],_=>rfl
 |[],_::_,h=>by simp[Kw]at h
 |_::_,[],h=>by simp[Kw]at h
 |a::l,b::m,h=>by
  simp only[Kw,Bool.and_eq_true]at h;rw[AP h.1,tY h.2]
theorem oI {a b:T}(h:Vw a b=true):a=b:=by
 unfold Vw at h;split at h
 .rw[tY h]
 .rw[tY h]
 .exact jV h
 .exact AP h
theorem jM:∀{a b:List T},DJ a b=true->a=b
 |[],[],_=>rfl
 |[],_::_,h=>by simp[DJ]at h
 |_::_,[],h=>by simp[DJ]at h
 |a::l,b::m,h=>by
  simp only[DJ,Bool.and_eq_true]at h;rw[oI h.1,jM h.2]
theorem CY {a b:VO}(h:Yb a b=true):a=b/\b.am=false:=by
 have he:=ou h;refine⟨he,?_⟩;rw[<-he];unfold Yb KX at h;split at h<;>first|rfl|cases h
theorem Iw {ι':Io}(hf:Nh t=true)(h:VR ι t v):VR ι' t v:=by
 cases t<;>simp only[Nh,Bool.false_eq_true]at hf<;>simpa only[VR]using h
theorem Bh {ι ι':Io}:∀{ts:List T} {vs:List Value},Jr ts=true->VL ι ts vs->VL ι' ts vs
 |[],vs,_,h=>by simpa only[VL]using h
 |t::ts,vs,hf,h=>by
  simp only[Jr,Bool.and_eq_true]at hf;simp only[VL]at *;obtain⟨v,rest,h1,h2,h3⟩:=h;exact⟨v,rest,h1,Iw hf.1 h2,Bh hf.2 h3⟩
theorem UZ {ι':Io}(hf:Gt t=true)(h:VR ι t v):VR ι' t v:=by
 unfold Gt at hf;split at hf
 .simp only[VR]at *;obtain⟨vs,h1,h2⟩:=h;exact⟨vs,h1,Bh hf h2⟩
 .simp only[VR]at *;obtain⟨vs,h1,h2⟩:=h;exact⟨vs,h1,Bh hf h2⟩
 .exact Iw hf h
noncomputable def nZ (N:Nat)(rows:List (Nat×VO)):S:=⟨fromV rows (.leaf none),N,N⟩
theorem J9 (s:S):∀(rows:List (Nat×VO)) (V:En (Option VO)) (nx low:Nat),jq s rows=true->(∀b,(⟨V,nx,low⟩:S).at b=none\/((⟨V,nx,low⟩:S).at b=s.at b/\bZ s b=false))->∀b,(⟨fromV rows V,nx,low⟩:S).at b=none\/((⟨fromV rows V,nx,low⟩:S).at b=s.at b/\bZ s b=false)
 |[],V,nx,low,_,hV=>hV
 |x::rows,V,nx,low,hr,hV=>by
  simp only[jq,Bool.and_eq_true]at hr;obtain⟨h1,h2⟩:=hr;unfold fromV;rw[En.aV];refine J9 s rows _ nx low h2 fun b=> ?_
  cases hx:s.at x.1 with
  |none=>rw[hx]at h1;cases h1
  |some o=>
   rw[hx]at h1;obtain⟨e1,e2⟩:=CY h1;have hx16:Nat.ble x.1 16383=true:=by
    cases hb:Nat.ble x.1 16383 with
    |true=>rfl
    |false=>
     unfold S.at at hx;rw[aJ,hb,if_neg (by decide)]at hx;cases hx
   have hx2:=aH.1 hx16;have hb:=hV b;by_cases hbc:x.1=b
   .right;subst hbc;refine⟨?_,?_⟩
    .rw[hx];unfold S.at;rw[aJ,hx16,if_pos rfl,En.bT (by omega) (by omega),if_pos rfl,e1]
    .unfold bZ;rw[hx,e1];exact e2
   .unfold S.at at hb ⊢;rw[aJ,aJ]at hb ⊢;by_cases hb16:Nat.ble b 16383=true
    .simp only[hb16,if_true]at hb ⊢;have hb2:=aH.1 hb16;rw[En.bT (by omega) (by omega),if_neg (fun e=>hbc e.symm)];exact hb
    .left;simp only[hb16,if_false];rfl
theorem Np {s:S}(hr:jq s rows=true)(b:Nat):(nZ N rows).at b=none\/((nZ N rows).at b=s.at b/\bZ s b=false):=
 J9 s rows _ N N hr (fun b=> .inl (by
  unfold S.at;rw[aJ];split
  .rw[En.bU]
  .rfl)) b
theorem yL {P:Program}{p:Pr}{self:ae}{s s1:S}{h:Heap}(ok:Ok P p)(sd:Snd P self)(hd:qQ p self g vs (nZ N rows)= .ok (t,s1))(hlow:N<=s1.low)(hf:Gt t=true)(hm:∀b,(nZ N rows).at b=none\/((nZ N rows).at b=s.at b/\bZ s b=false))(hn:s.nx<=N)(hv:VL ι vs us)(H:Sim P ι s h):ak P g us.toArray h (Post P ι s h t s):=by
 have live:∀b,(nZ N rows).at b≠none->s.at b≠none:=fun b hb=>by
  rcases hm b with h1|⟨h1,_⟩
  .exact absurd h1 hb
  .rw[<-h1];exact hb
 have H1:Sim P ι (nZ N rows) h:=⟨fun b x hx=>⟨Nat.lt_of_lt_of_le (H.fresh b x hx).1 hn,(H.fresh b x hx).2⟩,fun b c x y hb hc=>H.inj b c x y (live b hb) (live c hc),fun b o hb=>by
  rcases hm b with h1|⟨h1,_⟩
  .rw[h1]at hb;cases hb
  .exact H.obj b o (h1▸hb)⟩
 refine ak.mono (vY ok sd hd hv H1) ?_;rintro v h' ⟨ι',st,sm,hv'⟩;have keep:∀r,r<h.size->(∀b x,ι b=some x->x.r=r->b<N/\bZ (nZ N rows) b=false)->h'[r]? =h[r]? :=fun r hr2 hb=>st.old r hr2 fun b x hx he=> .inr ⟨Nat.lt_of_lt_of_le (hb b x hx he).1 hlow,(hb b x hx he).2⟩
 have noAm:∀b,bZ (nZ N rows) b=false:=fun b=>by
  rcases hm b with h1|⟨h1,h2⟩
  .unfold bZ;rw[h1]
  .unfold bZ at h2 ⊢;rw[h1];exact h2
 have same:∀r,r<h.size->h'[r]? =h[r]? :=fun r hr2=>keep r hr2 fun b x hx _=>⟨Nat.lt_of_lt_of_le (H.fresh b x hx).1 hn,noAm b⟩
 refine⟨ι,⟨fun _ _ hx=>hx,Nat.le_refl _,Nat.le_refl _,st.size,fun _ _ hx=>hx,fun _ _ hx=> .inl hx,fun _ _ _ hx=>hx,fun r hr2 _=>same r hr2⟩,⟨fun b x hx=>⟨(H.fresh b x hx).1,Nat.lt_of_lt_of_le (H.fresh b x hx).2 st.size⟩,H.inj,fun b o hb=> ?_⟩,UZ hf hv'⟩;obtain⟨x,ob,h1,h2,h3⟩:=H.obj b o hb;exact⟨x,ob,h1,(same x.r (H.fresh b x h1).2).trans h2,h3⟩
theorem Dy (s:S):∀(rows:List (Nat×VO)) (V:En (Option VO)) (nx low:Nat),(∀x∈rows,s.at x.1=some x.2/\x.2.am=false)->(∀b,(⟨V,nx,low⟩:S).at b=none\/((⟨V,nx,low⟩:S).at b=s.at b/\bZ s b=false))->∀b,(⟨fromV rows V,nx,low⟩:S).at b=none\/((⟨fromV rows V,nx,low⟩:S).at b=s.at b/\bZ s b=false)
 |[],V,nx,low,_,hV=>hV
 |x::rows,V,nx,low,hr,hV=>by
  obtain⟨hx,e2⟩:=hr x (by simp);unfold fromV;rw[En.aV];refine Dy s rows _ nx low (fun y hy=>hr y (by simp[hy])) fun b=> ?_
  have hx16:Nat.ble x.1 16383=true:=by
   cases hb:Nat.ble x.1 16383 with
   |true=>rfl
   |false=>
    unfold S.at at hx;rw[aJ,hb,if_neg (by decide)]at hx;cases hx
  by_cases hbc:b=x.1
  .right;subst hbc;refine⟨?_,?_⟩
   .rw[hx,D8 _ hx16,if_pos rfl]
   .unfold bZ;rw[hx];exact e2
  .rw[D8 _ hx16,if_neg hbc];exact hV b
theorem Tz {s:S}(hr:∀x∈rows,s.at x.1=some x.2/\x.2.am=false)(b:Nat):(nZ N rows).at b=none\/((nZ N rows).at b=s.at b/\bZ s b=false):=
 Dy s rows _ N N hr (fun b=> .inl (by
  unfold S.at;rw[aJ];split
  .rw[En.bU]
  .rfl)) b
theorem Bc {s:S}:∀{rows:List (Nat×VO)},jq s rows=true->∀x∈rows,s.at x.1=some x.2/\x.2.am=false
 |[],_,x,hx=>by simp at hx
 |y::rows,h,x,hx=>by
  simp only[jq,Bool.and_eq_true]at h;rcases List.mem_cons.1 hx with rfl|hx
  .have h1:=h.1;split at h1
   .rename_i o ho;obtain⟨e1,e2⟩:=CY h1;exact⟨by rw[ho,e1],e2⟩
   .cases h1
  .exact Bc h.2 x hx
structure Mm where
 vs:List T
 rows:List (Nat×VO)
 ans:T
noncomputable def mmB (p:Pr)(n:Nat)(g:FuncId)(N:Nat)(x:Mm):Bool:=match qQ p (DK p n) g x.vs (nZ N x.rows)with
 | .ok (t,s)=>Nat.ble N s.low&&(Vw t x.ans&&Gt t)
 | .bad _=>false
noncomputable def zG (f:List (List T)->List T->Bool):List (List T)->List (List T)->Bool
 |_,[]=>true
 |pre,e::r=>match f (pre++r) e with|true=>zG f (pre++[e]) r|false=>false
noncomputable def permA (g:List T->Bool):Nat->List (List T)->List T->Bool
 |0,_,pre=>g pre
 |n+1,L,pre=>zG (fun L e=>permA g n L (pre++e)) [] L
theorem zAo {f:List (List T)->List T->Bool}{pre:List (List T)}:zG f pre []=true:=rfl
theorem Zf {f:List (List T)->List T->Bool}{pre r:List (List T)}{e:List T}(h:f (pre++r) e=true)(h2:zG f (pre++[e]) r=true):zG f pre (e::r)=true:=by
 unfold zG;rw[h];exact h2
theorem YN {g:List T->Bool}{n:Nat}{pre:List T}(h:zG (fun L e=>permA g n L (pre++e)) [] L=true):permA g (n+1) L pre=true:=h
theorem JB {f:List (List T)->List T->Bool}{e:List T}{b:List (List T)}:∀{a pre:List (List T)},zG f pre (a++e::b)=true->f (pre++a++b) e=true
 |[],pre,h=>by
  simp only[List.nil_append]at h;unfold zG at h;split at h
  .rename_i hf;simpa using hf
  .cases h
 |x::a,pre,h=>by
  simp only[List.cons_append]at h;unfold zG at h;split at h
  .have:=JB h;simpa using this
  .cases h
theorem Ca {g:List T->Bool}:∀{n:Nat} {L els:List (List T)} {pre:List T},permA g n L pre=true->L.length=n->List.Perm els L->g (pre++els.flatten)=true
 |0,L,els,pre,h,hl,hp=>by
  have h1:L=[]:=List.length_eq_zero_iff.1 hl;subst h1;have h2:els=[]:=List.Perm.eq_nil hp;subst h2;simpa[permA]using h
 |n+1,L,els,pre,h,hl,hp=>by
  cases els with
  |nil=>
   have:=hp.length_eq;simp at this;omega
  |cons e r=>
   have hm:e∈L:=hp.mem_iff.1 (by simp);obtain⟨a,b,rfl⟩:=List.append_of_mem hm;have hr:List.Perm r (a++b):=(List.perm_cons e).1 (hp.trans List.perm_middle);have h1:=JB (a:=a) (pre:=[]) h;simp only[List.nil_append]at h1;have:=Ca h1 (by simp at hl ⊢;omega) hr;rw[List.flatten_cons,<-List.append_assoc];exact this
noncomputable def Nt (b:Nat):List (Nat×VO)->Bool
 |[]=>true
 |x::l=> !(Nat.beq x.1 b)&&Nt b l
theorem DZ {b:Nat}:∀{l:List (Nat×VO)},Nt b l=true->∀x∈l,x.1≠b
 |[],_,x,hx=>by simp at hx
 |y::l,h,x,hx=>by
  simp only[Nt,Bool.and_eq_true,Bool.not_eq_true']at h;rcases List.mem_cons.1 hx with rfl|hx
  .intro e;rw[e,Nat.beq_refl]at h;cases h.1
  .exact DZ h.2 x hx
noncomputable def zAl (N:Nat)(vs:List T)(b:Nat)(ct:TypeId)(L:List (List T))(rows:List (Nat×VO))(ans:T):List T->S->Option T:=fun ws s=>
 match DJ ws vs&&(Nat.ble s.nx N&&(jq s rows&&Nt b rows))with
 |true=>(match s.at b with
  |some (.bag els u)=>(match Nat.beq u ct&&MQ els L with|true=>some ans|false=>none)
  |_=>none)
 |false=>none
theorem Xx {P:Program}{p:Pr}{n:Nat}{b:Nat}{ct:TypeId}(ok:Ok P p)(lb:fE P p)(hall:permA (fun cs=>mmB p n g N ⟨vs,(b,.row cs ct true)::rows,ans⟩) L.length L []=true):
 ∀ws s t,zAl N vs b ct L rows ans ws s=some t->∀ι us h,VL ι ws us->Sim P ι s h->ak P g us.toArray h (Post P ι s h t s):=by
 intro ws s t hd ι us h hv H;unfold zAl at hd;split at hd
 .rename_i hc;simp only[Bool.and_eq_true]at hc;obtain⟨k1,k2,k3,k4⟩:=hc;split at hd
  .rename_i els u hb;split at hd
   .rename_i hq;simp only[Bool.and_eq_true]at hq;cases hd;obtain rfl:=Nat.eq_of_beq_eq_true hq.1;obtain rfl:=tu hq.2;obtain⟨y,ob,g1,g2,pe,cur,p1,p2,p3,p4,p5,p6,p7⟩:=H.obj _ _ hb;have hx:=Ca hall rfl p1;rw[List.nil_append]at hx;have hb16:b<=16383:=by
     unfold S.at at hb;rw[aJ]at hb;split at hb
     .rename_i hh;exact aH.1 hh
     .cases hb
    have hat:∀c,(dX s b (.row pe.flatten u true)).at c=if c=b then some (.row pe.flatten u true)else s.at c:=fun c=>by
     rw[vR];simp only[hb16,true_and]
    have hqn:(dX s b (.row pe.flatten u true)).nx=s.nx:=by unfold dX bG;rw[aJ];split<;>simp[En.aV]
    have hql:(dX s b (.row pe.flatten u true)).low=s.low:=by unfold dX bG;rw[aJ];split<;>simp[En.aV]
    generalize dX s b (.row pe.flatten u true)=sr at hat hqn hql;have live:∀c,sr.at c≠none->s.at c≠none:=fun c hc=>by
     by_cases hcb:c=b
     .subst hcb;rw[hb];simp
     .rw[hat,if_neg hcb]at hc;exact hc
    have live2:∀c,s.at c≠none->sr.at c≠none:=fun c hc=>by
     by_cases hcb:c=b
     .subst hcb;rw[hat,if_pos rfl];simp
     .rw[hat,if_neg hcb];exact hc
    have amr:∀c,bZ sr c=bZ s c:=fun c=>by
     unfold bZ;by_cases hcb:c=b
     .subst hcb;rw[hb,hat,if_pos rfl];rfl
     .rw[hat,if_neg hcb]
    have Hr:Sim P ι sr h:=⟨fun c y hy=>by rw[hqn];exact H.fresh c y hy,fun c d y z hc hd=>H.inj c d y z (live c hc) (live d hd),fun c o ho=>by
     by_cases hcb:c=b
     .subst hcb;rw[hat,if_pos rfl]at ho;cases ho;exact⟨y,ob,g1,g2,cur,p2,p3,p4,fun h=>(by cases h),fun _=>⟨p5,p6,p7⟩⟩
     .rw[hat,if_neg hcb]at ho;exact H.obj c o ho⟩
    have hrows:∀x∈(b,VO.row pe.flatten u true)::rows,sr.at x.1=some x.2/\x.2.am=false:=fun x hx=>by
     rcases List.mem_cons.1 hx with rfl|hx
     .exact⟨by rw[hat,if_pos rfl],rfl⟩
     .rw[hat,if_neg (DZ k4 x hx)];exact Bc k3 x hx
    unfold mmB at hx;split at hx
    .rename_i t s1 hr;simp only[Bool.and_eq_true]at hx;rw[jM k1]at hv;rw[<-oI hx.2.1];refine ak.mono (yL ok (eY ok lb n) hr (aH.1 hx.1) hx.2.2 (Tz hrows) (by rw[hqn];exact aH.1 k2) hv Hr) ?_;rintro v h' ⟨ι',q1,q2,q3⟩;refine⟨ι',⟨q1.sub,Nat.le_refl _,Nat.le_refl _,q1.size,fun _ _ h=>h,fun c y hy=> ?_,fun _ _ _ h=>h,fun r hr2 hcc=>q1.old r hr2 fun c y hy he=> ?_⟩,⟨fun c y hy=>by rw[<-hqn];exact q2.fresh c y hy,fun c d y z hc hd=>q2.inj c d y z (live2 c hc) (live2 d hd),fun c o ho=> ?_⟩,q3⟩
     .rcases q1.grow c y hy with g|⟨g,g'|⟨d,z,e1,e2,e3,e4⟩⟩
      .exact .inl g
      .exact .inr ⟨by rw[<-hqn];exact g,.inl g'⟩
      .exact .inr ⟨by rw[<-hqn];exact g,.inr ⟨d,z,e1,e2,by rw[<-hql];exact e3,live d e4⟩⟩
     .rcases hcc c y hy he with g|⟨g,g'⟩
      .left;cases hz:sr.at c with
       |none=>rfl
       |some o=>exact absurd g (live c (by rw[hz];simp))
      .exact .inr ⟨by rw[hql];exact g,by rw[amr];exact g'⟩
     .by_cases hcb:c=b
      .subst hcb;rw[hb]at ho;cases ho;obtain⟨z,ob2,e1,e2,cur2,e3,e4,e5,_,e7⟩:=q2.obj c (.row pe.flatten u true) (by rw[hat,if_pos rfl]);obtain⟨f1,f2,f3⟩:=e7 rfl;exact⟨z,ob2,e1,e2,pe,cur2,p1,e3,e4,e5,f1,f2,f3⟩
      .exact q2.obj c o (by rw[hat,if_neg hcb];exact ho)
    .cases hx
   .cases hd
  .cases hd
 .cases hd
abbrev Ans:=List T->S->Option (T×S)
noncomputable def U4 (p:Pr)(mem:Nat->Option Ans):Pr:=⟨p.ty,p.fn,p.lib,p.ext,mem⟩
theorem zAy {P:Program}{p:Pr}(ok:Ok P p)(mem:Nat->Option Ans):Ok P (U4 p mem):=⟨ok.ext,ok.ty,ok.fn,ok.mixed⟩
theorem Sr {P:Program}{p:Pr}(lb:fE P p){mem:Nat->Option Ans}(hm:∀g f vs s t s',mem g=some f->f vs s=some (t,s')->∀ι us h,VL ι vs us->Sim P ι s h->ak P g us.toArray h (Post P ι s h t s')):fE P (U4 p mem):=⟨lb.lib,hm⟩
theorem SE {P:Program}{s:S}{h h':Heap}(H:Sim P ι s h)(x:Ext h h')(hv:VR ι t v):Post P ι s h t s v h':=
 ⟨ι,⟨fun _ _ hx=>hx,Nat.le_refl _,Nat.le_refl _,x.size,fun _ _ hx=>hx,fun _ _ hx=> .inl hx,fun _ _ _ hx=>hx,fun r hr _=>x.old r hr⟩,⟨fun b y hy=>⟨(H.fresh b y hy).1,Nat.lt_of_lt_of_le (H.fresh b y hy).2 x.size⟩,H.inj,fun b o hb=>by
  obtain⟨y,ob,h1,h2,h3⟩:=H.obj b o hb;exact⟨y,ob,h1,(x.old y.r (H.fresh b y h1).2).trans h2,h3⟩⟩,hv⟩
noncomputable def memT:List T->S->Option T
 |[],_=>some (.bool true)
 |_::_,_=>none
theorem YL {P:Program}(W:∀h,ak P g #[] h (fun v h'=>v= .bool true/\Ext h h')):∀vs s t,memT vs s=some t->∀ι us h,VL ι vs us->Sim P ι s h->ak P g us.toArray h (Post P ι s h t s):=by
 intro vs s t hd ι us h hv H;cases vs with
 |nil=>
  cases hd;simp only[VL]at hv;subst hv;refine ak.mono (W h) ?_;rintro v h' ⟨rfl,x⟩;exact SE H x (by simp only[VR])
 |cons a l=>cases hd
def OH (P:Program)(g:FuncId)(f:List T->S->Option T):Prop:=∀vs s t,f vs s=some t->∀ι us h,VL ι vs us->Sim P ι s h->ak P g us.toArray h (Post P ι s h t s)
def vS (P:Program)(g:FuncId)(f:Ans):Prop:=∀vs s t s',f vs s=some (t,s')->∀ι us h,VL ι vs us->Sim P ι s h->ak P g us.toArray h (Post P ι s h t s')
noncomputable def XR (f:List T->S->Option T):Ans:=fun vs s=>match f vs s with|some t=>some (t,s)|none=>none
theorem zBG {P:Program}{f:List T->S->Option T}(hf:OH P g f):vS P g (XR f):=by
 intro vs s t s' hd;unfold XR at hd;split at hd
 .rename_i h;cases hd;exact hf vs s _ h
 .cases hd
noncomputable def GN:List (Nat×Ans)->Nat->Option Ans
 |[],_=>none
 |x::l,g=>ite (Nat.beq x.1 g) (some x.2) (GN l g)
theorem uZ {P:Program}:∀(l:List (Nat×Ans)),(∀x∈l,vS P x.1 x.2)->∀g f,GN l g=some f->vS P g f
 |[],_,g,f,h=>by cases h
 |x::l,hl,g,f,h=>by
  unfold GN at h;rw[aJ]at h;split at h
  .rename_i hb;cases h;rw[<-zBx hb];exact hl x List.mem_cons_self
  .exact uZ l (fun y hy=>hl y (List.mem_cons_of_mem _ hy)) g f h
theorem Zc {P:Program}{p:Pr}(lb:fE P p)(l:List (Nat×Ans))(hl:∀x∈l,vS P x.1 x.2):fE P (U4 p (GN l)):=
 Sr lb fun g f vs s t s' hg hd=>uZ l hl g f hg vs s t s' hd
structure Mr where
 vs:List T
 rows:List (Nat×VO)
 ans:T
 news:List (Nat×VO)
noncomputable def Cb (K N:Nat)(L:List Nat)(b:Nat):Option Nat:=match Nat.blt b K with
 |true=>some b
 |false=>(match Nat.blt b N with|true=>none|false=>PY b L K)
noncomputable def jX (s:S)(o:Option VO):S:=dP (Nat.succ s.nx) fun n=>bG s s.nx o n s.low
noncomputable def nU (ρ:Nat->Option Nat):List (Nat×VO)->S->S
 |[],s=>s
 |x::l,s=>match wh ρ x.2 with
  |some o=>nU ρ l (jX s (some o))
  |none=>nU ρ l (jX s none)
noncomputable def jB:List (Nat×VO)->List Nat
 |[]=>[]
 |x::l=>x.1::jB l
noncomputable def V7 (N:Nat):List Mr->Ans
 |[],_,_=>none
 |x::l,vs,s=>match DJ vs x.vs&&(jq s x.rows&&Nat.ble s.nx N)with
  |true=>some (IW (Cb s.nx N (jB x.news)) x.ans,nU (Cb s.nx N (jB x.news)) x.news s)
  |false=>V7 N l vs s
noncomputable def Ce (N:Nat)(s:S):List (Nat×VO)->Bool
 |[]=>true
 |x::l=>Nat.ble N x.1&&((match s.at x.1 with|some o=>KX o x.2|none=>false)&&Ce N s l)
noncomputable def mrB (p:Pr)(n:Nat)(g:FuncId)(N:Nat)(x:Mr):Bool:=match qQ p (DK p n) g x.vs (nZ N x.rows)with
 | .ok (t,s)=>Nat.ble N s.low&&(eqV t x.ans&&(nodupB (jB x.news)&&Ce N s x.news))
 | .bad _=>false
theorem AX:∀{l:List (Nat×VO)} {i b:Nat},(jB l)[i]? =some b->∃o,l[i]? =some (b,o)
 |[],i,b,h=>by simp[jB]at h
 |x::l,0,b,h=>by simp only[jB,List.getElem?_cons_zero,Option.some.injEq]at h;subst h;exact⟨x.2,rfl⟩
 |x::l,i+1,b,h=>by
  simp only[jB,List.getElem?_cons_succ]at h ⊢;exact AX h
theorem Gn:∀(l:List (Nat×VO)),(jB l).length=l.length
 |[]=>rfl
 |x::l=>by simp only[jB,List.length_cons,Gn l]
theorem tQ {N:Nat}{s:S}:∀{l:List (Nat×VO)},Ce N s l=true->∀x∈l,N<=x.1/\s.at x.1=some x.2
 |[],_,x,hx=>by simp at hx
 |y::l,h,x,hx=>by
  simp only[Ce,Bool.and_eq_true]at h;rcases List.mem_cons.1 hx with rfl|hx
  .refine⟨aH.1 h.1,?_⟩;have h2:=h.2.1;split at h2
   .rename_i o ho;rw[ho,ou h2]
   .cases h2
  .exact tQ h.2.2 x hx
theorem QQ (s:S)(o:Option VO)(c:Nat):(jX s o).at c=(if s.nx<=16383/\c=s.nx then o else s.at c)/\(jX s o).nx=s.nx+1/\(jX s o).low=s.low:=by
 unfold jX;rw[dR];refine⟨bO s s.nx c o _ _,?_,?_⟩
 .unfold bG;rw[aJ];split<;>simp[En.aV]
 .unfold bG;rw[aJ];split<;>simp[En.aV]
theorem Oi (ρ:Nat->Option Nat):∀(l:List (Nat×VO)) (s:S) (c:Nat),(c<s.nx->(nU ρ l s).at c=s.at c)/\
 (s.nx<=c->c<s.nx+l.length->(nU ρ l s).at c=none\/∃b o,l[c-s.nx]? =some (b,o)/\(nU ρ l s).at c=wh ρ o)/\(s.nx+l.length<=c->(nU ρ l s).at c=s.at c)/\(nU ρ l s).nx=s.nx+l.length/\(nU ρ l s).low=s.low
 |[],s,c=>⟨fun _=>rfl,fun h1 h2=>by simp at h2;omega,fun _=>rfl,rfl,rfl⟩
 |x::l,s,c=>by
  have key:∀o,wh ρ x.2=o->(c<s.nx->(nU ρ l (jX s o)).at c=s.at c)/\
   (s.nx<=c->c<s.nx+(x::l).length->(nU ρ l (jX s o)).at c=none\/∃b o',(x::l)[c-s.nx]? =some (b,o')/\(nU ρ l (jX s o)).at c=wh ρ o')/\(s.nx+(x::l).length<=c->(nU ρ l (jX s o)).at c=s.at c)/\(nU ρ l (jX s o)).nx=s.nx+(x::l).length/\(nU ρ l (jX s o)).low=s.low:=fun o ho=>by
   obtain⟨n1,n2,n3⟩:=QQ s o c;obtain⟨i1,i2,i3,i4,i5⟩:=Oi ρ l (jX s o) c;rw[n2]at i1 i2 i3 i4;rw[n3]at i5;rw[List.length_cons];refine⟨fun h=> ?_,fun h1 h2=> ?_,fun h=> ?_,by rw[i4];omega,i5⟩
   .rw[i1 (by omega),n1,if_neg (by omega)]
   .by_cases hc:c=s.nx
    .rw[i1 (by omega),n1];by_cases hb:s.nx<=16383
     .rw[if_pos ⟨hb,hc⟩];exact .inr ⟨x.1,x.2,by rw[hc];simp,ho.symm⟩
     .left;rw[if_neg (fun hh=>hb hh.1)];unfold S.at;rw[aJ,if_neg];intro hh;have:=aH.1 hh;omega
    .rcases i2 (by omega) (by omega)with h3|⟨b,o',h3,h4⟩
     .exact .inl h3
     .refine .inr ⟨b,o',?_,h4⟩;rw[show c-s.nx=(c-(s.nx+1))+1 by omega,List.getElem?_cons_succ];exact h3
   .rw[i3 (by omega),n1,if_neg (by omega)]
  unfold nU;split
  .rename_i o ho;exact key _ ho
  .rename_i ho;exact key _ ho
def HC (P:Program)(g:FuncId)(N:Nat)(x:Mr):Prop:=∀(ι:Io) (us:List Value) (h:Heap),VL ι x.vs us->Sim P ι (nZ N x.rows) h->
 ak P g us.toArray h (fun v h'=>∃s1,N<=s1.low/\(jB x.news).Nodup/\(∀y∈x.news,N<=y.1/\s1.at y.1=some y.2)/\Post P ι (nZ N x.rows) h x.ans s1 v h')
theorem Lb {P:Program}{s:S}{h:Heap}(hc:HC P g N ⟨vs,rows,t,news⟩)(hr:jq s rows=true)(hn:s.nx<=N)(hv:VL ι vs us)(H:Sim P ι s h):
 ak P g us.toArray h (Post P ι s h (IW (Cb s.nx N (jB news)) t) (nU (Cb s.nx N (jB news)) news s)):=by
 have hm:=Np (N:=N) hr;have live:∀b,(nZ N rows).at b≠none->s.at b≠none:=fun b hb=>by
  rcases hm b with h1|⟨h1,_⟩
  .exact absurd h1 hb
  .rw[<-h1];exact hb
 have H1:Sim P ι (nZ N rows) h:=⟨fun b x hx=>⟨Nat.lt_of_lt_of_le (H.fresh b x hx).1 hn,(H.fresh b x hx).2⟩,fun b c x y hb hc=>H.inj b c x y (live b hb) (live c hc),fun b o hb=>by
  rcases hm b with h1|⟨h1,_⟩
  .rw[h1]at hb;cases hb
  .exact H.obj b o (h1▸hb)⟩
 refine ak.mono (hc ι us h hv H1) ?_;rintro v h' ⟨s1,hlow,hnd,hnews,ι1,st,sm,hv'⟩;simp only at hnd hnews hv';have noAm:∀b,bZ (nZ N rows) b=false:=fun b=>by
  rcases hm b with h1|⟨h1,h2⟩
  .unfold bZ;rw[h1]
  .unfold bZ at h2 ⊢;rw[h1];exact h2
 have same:∀r,r<h.size->h'[r]? =h[r]? :=fun r hr2=>st.old r hr2 fun b x hx he=> .inr ⟨Nat.lt_of_lt_of_le (Nat.lt_of_lt_of_le (H.fresh b x hx).1 hn) hlow,noAm b⟩
 have ngrow:∀b x,ι1 b=some x->ι b=some x\/(N<=b/\h.size<=x.r):=fun b x hx=>by
  rcases st.grow b x hx with h1|⟨h1,h2|⟨c,y,h2,h3,h4,h5⟩⟩
  .exact .inl h1
  .exact .inr ⟨h1,h2⟩
  .have:=(H.fresh c y h2).1;omega
 have hL:∀k b,(jB news)[k]? =some b->N<=b/\∃o,news[k]? =some (b,o)/\s1.at b=some o:=fun k b hk=>by
  obtain⟨o,ho⟩:=AX hk;have:=hnews (b,o) (List.mem_of_getElem? ho);exact⟨this.1,o,ho,this.2⟩
 obtain⟨ι2,hι2⟩:∃ι2:Io,ι2=fun c=>if c<s.nx then ι c else match(jB news)[c-s.nx]? with|some b=>ι1 b|none=>none:=⟨_,rfl⟩
 have lo2:∀c,c<s.nx->ι2 c=ι c:=fun c hc=>by rw[hι2];simp only[hc,if_true]
 have hi2:∀c x,s.nx<=c->ι2 c=some x->∃b,(jB news)[c-s.nx]? =some b/\ι1 b=some x:=fun c x hc hx=>by
  rw[hι2]at hx;simp only[show¬c<s.nx by omega,if_false]at hx;split at hx
  .rename_i b hb;exact⟨b,hb,hx⟩
  .cases hx
 have hi3:∀c b,s.nx<=c->(jB news)[c-s.nx]? =some b->ι2 c=ι1 b:=fun c b hc hb=>by
  rw[hι2];simp only[show¬c<s.nx by omega,if_false,hb]
 have hρ:∀b c,Cb s.nx N (jB news) b=some c->ι2 c=ι1 b:=fun b c hbc=>by
  unfold Cb at hbc;split at hbc
  .rename_i hb;cases hbc;have hb:=bX.1 hb;rw[lo2 _ hb];cases hq:ι b with
   |some x=>exact(st.sub _ _ hq).symm
   |none=>
    cases hq1:ι1 b with
    |none=>rfl
    |some x=>
     rcases ngrow b x hq1 with h1|⟨h1,_⟩
     .rw[hq]at h1;cases h1
     .omega
  .split at hbc
   .cases hbc
   .obtain⟨h1,h2⟩:=FC hbc;exact hi3 c b h1 h2
 have sub2:Sub ι ι2:=fun b x hx=>by rw[lo2 b (H.fresh b x hx).1];exact hx
 have flen:=Gn news;have hat:=Oi (Cb s.nx N (jB news)) news s;have hnx:=(hat 0).2.2.2.1;have hlw:=(hat 0).2.2.2.2;have pre:∀c v,(nU (Cb s.nx N (jB news)) news s).at c=some v->(c<s.nx/\s.at c=some v)\/(s.nx<=c/\∃b o,(jB news)[c-s.nx]? =some b/\s1.at b=some o/\wh (Cb s.nx N (jB news)) o=some v):=fun c v hv=>by
  obtain⟨a1,a2,a3,_,_⟩:=hat c;by_cases h1:c<s.nx
  .rw[a1 h1]at hv;exact .inl ⟨h1,hv⟩
  .by_cases h2:c<s.nx+news.length
   .rcases a2 (by omega) h2 with h3|⟨b,o,h3,h4⟩
    .rw[h3]at hv;cases hv
    .rw[h4]at hv;have hb:(jB news)[c-s.nx]? =some b:=by
      have hlt:c-s.nx<(jB news).length:=by omega
      obtain⟨b',hb'⟩:∃b',(jB news)[c-s.nx]? =some b':=⟨_,List.getElem?_eq_getElem hlt⟩;obtain⟨o',ho'⟩:=AX hb';rw[h3]at ho';cases ho';exact hb'
     obtain⟨_,o',g1,g2⟩:=hL _ _ hb;rw[h3]at g1;cases g1;exact .inr ⟨by omega,b,o,hb,g2,hv⟩
   .rw[a3 (by omega)]at hv;obtain⟨y,ob,g1,_⟩:=H.obj c v hv;have:=(H.fresh c y g1).1;omega
 refine⟨ι2,⟨sub2,by rw[hnx];omega,by rw[hlw];exact Nat.le_refl _,st.size,fun b hb hz=>by rw[(hat b).1 hb];exact hz,fun c x hx=> ?_,fun b x hx hz=> ?_,fun r hr _=>same r hr⟩,⟨fun c x hx=> ?_,fun c d x y hc hd2 hx hy he=> ?_,fun c v hv=> ?_⟩,?_⟩
 .by_cases hc:c<s.nx
  .rw[lo2 c hc]at hx;exact .inl hx
  .obtain⟨b,hb,hb2⟩:=hi2 c x (by omega) hx;obtain⟨hNb,_⟩:=hL _ _ hb;rcases ngrow b x hb2 with h1|⟨_,h1⟩
   .have:=(H.fresh b x h1).1;omega
   .exact .inr ⟨by omega,.inl h1⟩
 .have hb:=(H.fresh b x hx).1;unfold bZ at hz ⊢;rw[(hat b).1 hb]at hz;exact hz
 .rw[hnx];by_cases hc:c<s.nx
  .rw[lo2 c hc]at hx;exact⟨by omega,Nat.lt_of_lt_of_le (H.fresh c x hx).2 st.size⟩
  .obtain⟨b,hb,hb2⟩:=hi2 c x (by omega) hx;have:=(List.getElem?_eq_some_iff.1 hb).1;exact⟨by omega,(sm.fresh b x hb2).2⟩
 .cases hvc:(nU (Cb s.nx N (jB news)) news s).at c with
  |none=>exact absurd hvc hc
  |some vc=>
   cases hvd:(nU (Cb s.nx N (jB news)) news s).at d with
   |none=>exact absurd hvd hd2
   |some vd=>
    rcases pre c vc hvc with⟨c1,c2⟩|⟨c1,b,o,c2,c3,_⟩
    .rw[lo2 c c1]at hx;rcases pre d vd hvd with⟨d1,d2⟩|⟨d1,b',o',d2,d3,_⟩
     .rw[lo2 d d1]at hy;exact H.inj c d x y (by rw[c2];simp) (by rw[d2];simp) hx hy he
     .obtain⟨b2,hb2,hb3⟩:=hi2 d y d1 hy;rw[d2]at hb2;cases hb2;have:=hL _ _ d2;rcases ngrow b' y hb3 with h1|⟨_,h1⟩
      .have:=(H.fresh b' y h1).1;omega
      .have:=(H.fresh c x hx).2;omega
    .obtain⟨b2,hb2,hb3⟩:=hi2 c x c1 hx;rw[c2]at hb2;cases hb2;have hNb:=(hL _ _ c2).1;rcases pre d vd hvd with⟨d1,d2⟩|⟨d1,b',o',d2,d3,_⟩
     .rw[lo2 d d1]at hy;rcases ngrow b x hb3 with h1|⟨_,h1⟩
      .have:=(H.fresh b x h1).1;omega
      .have:=(H.fresh d y hy).2;omega
     .obtain⟨b4,hb4,hb5⟩:=hi2 d y d1 hy;rw[d2]at hb4;cases hb4;have heq:=sm.inj b b' x y (by rw[c3];simp) (by rw[d3];simp) hb3 hb5 he;subst heq;have hlen:=(List.getElem?_eq_some_iff.1 c2).1;have:=(List.getElem?_inj hlen hnd).1 (c2.trans d2.symm);omega
 .rcases pre c v hv with⟨c1,c2⟩|⟨c1,b,o,c2,c3,c4⟩
  .obtain⟨y,ob,g1,g2,g3⟩:=H.obj c v c2;exact⟨y,ob,sub2 _ _ g1,(same y.r (H.fresh c y g1).2).trans g2,OR.mono sub2 g3⟩
  .obtain⟨y,ob,g1,g2,g3⟩:=sm.obj b o c3;exact⟨y,ob,by rw[hi3 c b c1 c2];exact g1,g2,GR hρ c4 g3⟩
 .exact vU hρ hv'
theorem YQ {P:Program}{p:Pr}{n:Nat}{x:Mr}(ok:Ok P p)(lb:fE P p)(hx:mrB p n g N x=true):HC P g N x:=by
 intro ι us h hv H;unfold mrB at hx;split at hx
 .rename_i t s1 hr;simp only[Bool.and_eq_true]at hx;refine ak.mono (vY ok (eY ok lb n) hr hv H) fun v h' hp=> ?_
  rw[rJ hx.2.1]at hp;exact⟨s1,aH.1 hx.1,kQ hx.2.2.1,tQ hx.2.2.2,hp⟩
 .cases hx
theorem BV {P:Program}{g:FuncId}{N:Nat}:∀(l:List Mr),(∀x∈l,HC P g N x)->vS P g (V7 N l)
 |[],_,vs,s,t,s',hd,_,_,_,_,_=>by cases hd
 |x::l,hl,vs,s,t,s',hd,ι,us,h,hv,H=>by
  unfold V7 at hd;split at hd
  .rename_i hc;simp only[Bool.and_eq_true]at hc;obtain⟨h1,h2,h3⟩:=hc;cases hd;rw[jM h1]at hv;exact Lb (hl x List.mem_cons_self) h2 (aH.1 h3) hv H
  .exact BV l (fun y hy=>hl y (List.mem_cons_of_mem _ hy)) vs s t s' hd ι us h hv H
theorem YM {P:Program}{p:Pr}{n:Nat}(ok:Ok P p)(lb:fE P p)(l:List Mr)(hl:∀x∈l,mrB p n g N x=true):vS P g (V7 N l):=
 BV l fun x hx=>YQ ok lb (hl x hx)
inductive Fr where
 |blk (i:Nat) (cs:List Code)
 |lp (b:Code) (n:Nat)
noncomputable def unwind:Ex->List Fr->Option (List Code×List Fr)
 |_,[]=>none
 | .normal,.blk _ cs::st=>some (cs,st)
 | .normal,.lp b (n+1)::st=>some (xX b,.lp b n::st)
 | .exit j,.blk i cs::st=>(match Nat.beq j i with|true=>some (cs,st)|false=>unwind (.exit j) st)
 | .exit j,.lp _ _::st=>unwind (.exit j) st
 |_,_::_=>none
noncomputable def Px (p:Pr)(n:Nat)(m:Fm)(cs:List Code)(ks bs:List Nat)(e:E)(d:List Nat)(s:S):Option (Ex×E×List Nat×S):=
 match Fb (DK p n) m none cs e d s with
 | .ok ⟨x,e,d,s⟩=>some (x,lM m ks e (.leaf .any),d,⟨nD bs s (.leaf none),s.nx,s.low⟩)
 |_=>none
noncomputable def Wx (p:Pr)(n:Nat)(m:Fm)(rs:List ResultVar)(cs:List Code)(ans:T)(news:List (Nat×VO))(N:Nat)(e:E)(d:List Nat)(s:S):Bool:=
 match Fb (DK p n) m none cs e d s with
 | .ok ⟨x,e,d,s⟩=>(match x with
   | .ret=>(match EN p m rs e d s with
     | .ok (t,s)=>Nat.ble N s.low&&(eqV t ans&&(nodupB (jB news)&&Ce N s news))
     | .bad _=>false)
   |_=>false)
 |_=>false
inductive ChR (p:Pr)(n:Nat)(m:Fm)(rs:List ResultVar)(ans:T)(news:List (Nat×VO))(N:Nat):List Code->List Fr->E->List Nat->S->Prop
 |last {cs st e d s}:Wx p n m rs cs ans news N e d s=true->ChR p n m rs ans news N cs st e d s
 |run {cs st e d s e2 d2 s2} (k:Nat) (ks bs:List Nat):Px p n m (cs.take k) ks bs e d s=some (.normal,e2,d2,s2)->ChR p n m rs ans news N (cs.drop k) st e2 d2 s2->ChR p n m rs ans news N cs st e d s
 |stop {cs st e d s x e2 d2 s2 cs2 st2} (ks bs:List Nat):Px p n m cs ks bs e d s=some (x,e2,d2,s2)->unwind x st=some (cs2,st2)->ChR p n m rs ans news N cs2 st2 e2 d2 s2->ChR p n m rs ans news N cs st e d s
 |open_ {i b cs st e d s}:ChR p n m rs ans news N (xX b) (.blk i cs::st) e d s->ChR p n m rs ans news N (.block i b::cs) st e d s
 |loop {b cs st e d s} (k:Nat):ChR p n m rs ans news N (xX b) (.lp b k::st) e d s->ChR p n m rs ans news N (.loop b::cs) st e d s
theorem ChR.op {p:Pr}{n:Nat}{m:Fm}{i:Nat}{cs0:List Code}{st:List Fr}{e:E}{d:List Nat}{s:S}(h:cs0= .block i b::cs)(C:ChR p n m rs ans news N (xX b) (.blk i cs::st) e d s):ChR p n m rs ans news N cs0 st e d s:=by
 rw[h];exact .open_ C
noncomputable def il:List Int->List T:=List.rec (motive:=fun _=>List T) [] (fun n _ ih=> .int .i64 n::ih)
end
section good
variable {P:Program}{p:Pr}{n:Nat}{m:Fm}{e e2:E}{d d2:List Nat}{s s2:S}{h0 h:Heap}{er:Env}{dr:List Deferred}
section
variable {K:aj}{cs:List Code}{q:Nat}
def Good (P:Program)(m:Fm)(e:E)(d:List Nat)(s:S)(h0:Heap)(er:Env)(dr:List Deferred)(h:Heap):Prop:=∃ι,RE ι m e er/\Sim P ι s h/\DL ι d dr/\Ste (fun _=>none) s0 h0 ι s h
theorem Good.ext (G:Good P m e d s h0 er dr h):Ext h0 h:=by
 obtain⟨ι,_,_,_,q⟩:=G;exact⟨q.size,fun r hr=>q.old r hr fun b x hx=>by cases hx⟩
theorem Good.start {vs:List T}{us:List Value}{nt:Nat}(hv:VL (fun _=>none) vs us)(hl:vs.length<=nt)(hn:nt<=1024):Good P ⟨gV nt,nt⟩ (pg ⟨gV nt,nt⟩ vs 0 (.leaf fB) id) [] s0 h0 (us++List.replicate (nt-us.length) undef) [] h0:=
 ⟨_,pK hv hl hn,Sim.zero h0,rfl,Ste.refl ..⟩
theorem Good.int (G:Good P m e d s h0 er dr h){t:Nat}(ht:t<m.n){k:IntKind}{z:Int}(hz:En.get (Pa.of m.dp t) e= .int k z):er.getD t undef= .int k z:=by
 obtain⟨ι,re,_⟩:=G;have:=re.get t ht;rw[hz]at this;simpa only[VR]using this
theorem Good.bool (G:Good P m e d s h0 er dr h){t:Nat}(ht:t<m.n){b:Bool}(hz:En.get (Pa.of m.dp t) e= .bool b):er.getD t undef= .bool b:=by
 obtain⟨ι,re,_⟩:=G;have:=re.get t ht;rw[hz]at this;simpa only[VR]using this
theorem Good.put (G:Good P m e d s h0 er dr h){v:T}{u:Value}(hq:q<m.n)(hv:∀ι,VR ι v u):Good P m (En.set (Pa.of m.dp q) v e) d s h0 (er.set q u) dr h:=by
 obtain⟨ι,re,r⟩:=G;have hf:=re.fit;refine⟨ι,⟨by rw[List.length_set];exact re.len,re.fit,fun i hi=> ?_⟩,r⟩;rw[En.bT (by omega) (by omega)];by_cases hiq:i=q
 .subst hiq;rw[if_pos rfl,List.getD_eq_getElem?_getD,List.getElem?_set,if_pos rfl,if_pos (by rw[re.len];exact hi)];exact hv ι
 .rw[if_neg hiq,List.getD_eq_getElem?_getD,List.getElem?_set,if_neg (fun h=>hiq h.symm),<-List.getD_eq_getElem?_getD];exact re.get i hi
theorem Good.len (G:Good P m e d s h0 er dr h):er.length=m.n:=by
 obtain⟨ι,re,_⟩:=G;exact re.len
theorem Good.fF (G:Good P m e d s h0 er dr h){u:Value}(hq:q<m.n):Good P m (En.set (Pa.of m.dp q) .any e) d s h0 (er.set q u) dr h:=G.put hq fun ι=>by simp only[VR]
end
end good
end Go.Run
