/- Lemmas. No condition. -/
import Derived.Test.YtejmkibjpaoahaaGreatDoorRun
import Derived.Laws.RangeString
import Derived.MapFrom
import Derived.ChangeKeysEq
set_option linter.unusedVariables false
set_option linter.unusedSimpArgs false
namespace Go.Run
open Go Go.Eng
section trees
variable {α β:Type}
theorem aJ {b:Bool}{x y:α}:ite b x y=if b=true then x else y:=by cases b<;>rfl
noncomputable def En.set (q:Pa)(v:α)(t:En α):En α:=En.eU q v t id
theorem En.SA (q:Pa)(v:α):∀(β:Type) (t:En α) (k:En α->β),En.eU q v t k=k (En.set q v t):=by
 induction q with
 |e=>intro β t k;rfl
 |o q ih=>
  intro β t k;cases t with
  |leaf w=>
   show En.eU q v (.leaf w) (fun l=>k (.node l (.leaf w)))=k (En.eU q v (.leaf w) (fun l=> .node l (.leaf w)));rw[ih,ih]
  |node l r=>
   show En.eU q v l (fun l=>k (.node l r))=k (En.eU q v l (fun l=> .node l r));rw[ih,ih]
 |i q ih=>
  intro β t k;cases t with
  |leaf w=>
   show En.eU q v (.leaf w) (fun r=>k (.node (.leaf w) r))=k (En.eU q v (.leaf w) (fun r=> .node (.leaf w) r));rw[ih,ih]
  |node l r=>
   show En.eU q v r (fun r=>k (.node l r))=k (En.eU q v r (fun r=> .node l r));rw[ih,ih]
theorem En.aV (q:Pa)(v:α)(t:En α)(k:En α->β):En.eU q v t k=k (En.set q v t):=En.SA q v β t k
noncomputable def Pa.len:Pa->Nat
 | .e=>0
 | .o q=>q.len+1
 | .i q=>q.len+1
theorem Pa.of_succ (d n:Nat):Pa.of (d+1) n=if n % 2=0 then .o (Pa.of d (n/2))else .i (Pa.of d (n/2)):=by
 show ite (Nat.beq (n % 2) 0) (Pa.o (Pa.of d (n/2))) (Pa.i (Pa.of d (n/2)))=_;rw[aJ];by_cases h:n % 2=0
 .simp[h]
 .have:Nat.beq (n % 2) 0=false:=by
   cases hb:Nat.beq (n % 2) 0 with
   |false=>rfl
   |true=>exact absurd (Nat.eq_of_beq_eq_true hb) h
  simp[h,this]
theorem Pa.Ug (d:Nat):∀n,(Pa.of d n).len=d:=by
 induction d with
 |zero=>intro n;rfl
 |succ d ih=>
  intro n;rw[Pa.of_succ];split<;>simp[Pa.len,ih]
theorem Pa.Yu (d:Nat):∀{a b:Nat},a<2^d->b<2^d->Pa.of d a=Pa.of d b->a=b:=by
 induction d with
 |zero=>intro a b ha hb _;simp at ha hb;omega
 |succ d ih=>
  intro a b ha hb h;rw[Pa.of_succ,Pa.of_succ]at h;have h1:a/2<2^d:=by rw[Nat.pow_succ]at ha;omega
  have h2:b/2<2^d:=by rw[Nat.pow_succ]at hb;omega
  split at h<;>split at h
  .have:=ih h1 h2 (by simpa using h);omega
  .cases h
  .cases h
  .have:=ih h1 h2 (by simpa using h);omega
theorem En.BS (q:Pa)(t:En α):En.get (.o q) t=match t with| .leaf v=>v| .node l _=>En.get q l:=by cases t<;>rfl
theorem En.Aq (q:Pa)(t:En α):En.get (.i q) t=match t with| .leaf v=>v| .node _ r=>En.get q r:=by cases t<;>rfl
theorem En.zBA (v:α)(t:En α):En.set .e v t= .leaf v:=rfl
theorem En.XY (q:Pa)(v:α)(t:En α):En.set (.o q) v t=match t with| .leaf w=> .node (En.set q v (.leaf w)) (.leaf w)| .node l r=> .node (En.set q v l) r:=by
 cases t with
 |leaf w=>show En.eU q v (.leaf w) (fun l=>En.node l (.leaf w))=_;rw[En.aV]
 |node l r=>show En.eU q v l (fun l=>En.node l r)=_;rw[En.aV]
theorem En.XO (q:Pa)(v:α)(t:En α):En.set (.i q) v t=match t with| .leaf w=> .node (.leaf w) (En.set q v (.leaf w))| .node l r=> .node l (En.set q v r):=by
 cases t with
 |leaf w=>show En.eU q v (.leaf w) (fun r=>En.node (.leaf w) r)=_;rw[En.aV]
 |node l r=>show En.eU q v r (fun r=>En.node l r)=_;rw[En.aV]
theorem En.bU (q:Pa)(v:α):En.get q (.leaf v)=v:=by cases q<;>rfl
theorem En.wG:∀(q p:Pa) (v:α) (t:En α),p.len=q.len->En.get p (En.set q v t)=if p=q then v else En.get p t
 | .e,.e,v,t,_=>by simp[En.zBA,En.bU]
 | .o q,.o p,v,t,h=>by
   have h:p.len=q.len:=by simpa[Pa.len]using h
   rw[En.XY];cases t with
   |leaf w=>simp only[En.BS,En.wG q p v _ h,Pa.o.injEq,En.bU]
   |node l r=>simp only[En.BS,En.wG q p v _ h,Pa.o.injEq]
 | .i q,.i p,v,t,h=>by
   have h:p.len=q.len:=by simpa[Pa.len]using h
   rw[En.XO];cases t with
   |leaf w=>simp only[En.Aq,En.wG q p v _ h,Pa.i.injEq,En.bU]
   |node l r=>simp only[En.Aq,En.wG q p v _ h,Pa.i.injEq]
 | .o q,.i p,v,t,_=>by
   rw[En.XY];cases t with
   |leaf w=>simp[En.Aq,En.bU]
   |node l r=>simp[En.Aq]
 | .i q,.o p,v,t,_=>by
   rw[En.XO];cases t with
   |leaf w=>simp[En.BS,En.bU]
   |node l r=>simp[En.BS]
 | .e,.o p,_,_,h=>by simp[Pa.len]at h
 | .e,.i p,_,_,h=>by simp[Pa.len]at h
 | .o q,.e,_,_,h=>by simp[Pa.len]at h
 | .i q,.e,_,_,h=>by simp[Pa.len]at h
theorem En.bT {d a b:Nat}(ha:a<2^d)(hb:b<2^d)(v:α)(t:En α):En.get (Pa.of d a) (En.set (Pa.of d b) v t)=if a=b then v else En.get (Pa.of d a) t:=by
 rw[En.wG _ _ _ _ (by rw[Pa.Ug,Pa.Ug])];by_cases h:a=b
 .subst h;simp
 .rw[if_neg h,if_neg fun hh=>h (Pa.Yu d ha hb hh)]
end trees
theorem dR {β:Type}(n:Nat)(k:Nat->β):dP n k=k n:=by cases n<;>rfl
theorem QW {β:Type}(n:Int)(k:Int->β):U7 n k=k n:=by
 cases n with
 |ofNat a=>show dP a (fun a=>k (.ofNat a))=_;rw[dR]
 |negSucc a=>show dP a (fun a=>k (.negSucc a))=_;rw[dR]
theorem force_eq {β:Type}(v:T)(k:T->β):force v k=k v:=by
 cases v<;>simp only[force,dR,QW]
 case bool b=>cases b<;>rfl
theorem aH {a b:Nat}:Nat.ble a b=true<->a<=b:=by rw[Nat.ble_eq]
structure Inf where
 r:Nat
 cap:Nat
 gh:Array MapEntry
 clock:Nat
 w:Nat
abbrev Io:=Nat->Option Inf
mutual
noncomputable def VR (ι:Io):T->Value->Prop
 | .bool b,v=>v= .bool b
 | .int k n,v=>v= .int k n
 | .str s,v=>v= .string ⟨⟨s⟩⟩
 | .rZ,v=>v= .pointer none
 | .ptr b o,v=>∃x,ι b=some x/\v= .pointer (some ⟨x.r,o,none⟩)
 | .dh,v=>v= .slice none 0 0
 | .slice b o n c,v=>∃x,ι b=some x/\v= .slice (some ⟨x.r,o,none⟩) n c
 | .own b n,v=>∃x,ι b=some x/\v= .slice (some ⟨x.r,0,none⟩) n x.cap/\n<=x.cap
 | .sub b o n,v=>∃x c,ι b=some x/\v= .slice (some ⟨x.r,o,none⟩) n c/\n<=c
 | .empty,v=>∃a c,v= .slice (some a) 0 c
 | .pY,v=>v= .map none
 | .map b,v=>∃x,ι b=some x/\v= .map (some x.r)
 | .func f a b,v=>match f with
   | .yield l=>a=[]/\b=[]/\∃x,ι l=some x/\v= .func (.yield x.r) #[] #[]
   |f=>∃c d,v= .func f c d/\VL ι a c.toList/\VL ι b d.toList
 | .nC,v=>v= .nilFunc
 | .iM,v=>v= .nilIface
 | .agg cs,v=>∃vs,v= .agg vs/\VL ι cs vs.toList
 | .tup cs,v=>∃vs,v= .tuple vs/\VL ι cs vs.toList
 | .any,_=>True
 | .res k m r lo hi,v=>∃z,v= .int k z/\z % m=r/\lo<=z/\z<=hi
noncomputable def VL (ι:Io):List T->List Value->Prop
 |[],vs=>vs=[]
 |c::cs,vs=>∃v rest,vs=v::rest/\VR ι c v/\VL ι cs rest
end
noncomputable def Sub (ι ι':Io):Prop:=∀b x,ι b=some x->ι' b=some x
mutual
theorem VR.mono {ι ι':Io}(hs:Sub ι ι'):∀(t:T) {v:Value},VR ι t v->VR ι' t v
 | .bool b,v,h=>by simpa only[VR]using h
 | .int k n,v,h=>by simpa only[VR]using h
 | .str s,v,h=>by simpa only[VR]using h
 | .rZ,v,h=>by simpa only[VR]using h
 | .ptr b o,v,h=>by simp only[VR]at *;obtain⟨x,h1,h2⟩:=h;exact⟨x,hs _ _ h1,h2⟩
 | .dh,v,h=>by simpa only[VR]using h
 | .slice b o n c,v,h=>by simp only[VR]at *;obtain⟨x,h1,h2⟩:=h;exact⟨x,hs _ _ h1,h2⟩
 | .own b n,v,h=>by simp only[VR]at *;obtain⟨x,h1,h2⟩:=h;exact⟨x,hs _ _ h1,h2⟩
 | .sub b o n,v,h=>by simp only[VR]at *;obtain⟨x,c,h1,h2⟩:=h;exact⟨x,c,hs _ _ h1,h2⟩
 | .empty,v,h=>by simpa only[VR]using h
 | .pY,v,h=>by simpa only[VR]using h
 | .map b,v,h=>by simp only[VR]at *;obtain⟨x,h1,h2⟩:=h;exact⟨x,hs _ _ h1,h2⟩
 | .func f a b,v,h=>by
   simp only[VR]at *;split at h
   .obtain⟨h1,h2,x,h3,h4⟩:=h;exact⟨h1,h2,x,hs _ _ h3,h4⟩
   .obtain⟨c,d,h1,h2,h3⟩:=h;exact⟨c,d,h1,VL.mono hs a h2,VL.mono hs b h3⟩
 | .nC,v,h=>by simpa only[VR]using h
 | .iM,v,h=>by simpa only[VR]using h
 | .agg cs,v,h=>by simp only[VR]at *;obtain⟨vs,h1,h2⟩:=h;exact⟨vs,h1,VL.mono hs cs h2⟩
 | .tup cs,v,h=>by simp only[VR]at *;obtain⟨vs,h1,h2⟩:=h;exact⟨vs,h1,VL.mono hs cs h2⟩
 | .any,v,h=>by simp only[VR]
 | .res k m r lo hi,v,h=>by simpa only[VR]using h
theorem VL.mono {ι ι':Io}(hs:Sub ι ι'):∀(ts:List T) {vs:List Value},VL ι ts vs->VL ι' ts vs
 |[],vs,h=>by simpa only[VL]using h
 |c::cs,vs,h=>by
  simp only[VL]at *;obtain⟨v,rest,h1,h2,h3⟩:=h;exact⟨v,rest,h1,VR.mono hs c h2,VL.mono hs cs h3⟩
end
theorem VL.length {ι:Io}:∀{ts:List T} {vs:List Value},VL ι ts vs->vs.length=ts.length
 |[],vs,h=>by simp only[VL]at h;simp[h]
 |c::cs,vs,h=>by
  simp only[VL]at h;obtain⟨v,rest,h1,h2,h3⟩:=h;simp[h1,VL.length h3]
theorem VL.append {ι:Io}:∀{ts us:List T} {vs ws:List Value},VL ι ts vs->VL ι us ws->VL ι (ts++us) (vs++ws)
 |[],us,vs,ws,h,k=>by simp only[VL]at h;simpa[h]using k
 |c::cs,us,vs,ws,h,k=>by
  simp only[VL]at h;obtain⟨v,rest,rfl,h2,h3⟩:=h;simp only[List.cons_append,VL];exact⟨v,rest++ws,rfl,h2,VL.append h3 k⟩
theorem VL.get {ι:Io}:∀{ts:List T} {vs:List Value} {i:Nat} {t:T},VL ι ts vs->ts[i]? =some t->∃v,vs[i]? =some v/\VR ι t v
 |[],vs,i,t,h,k=>by simp at k
 |c::cs,vs,0,t,h,k=>by
  simp only[VL]at h;obtain⟨v,rest,rfl,h2,h3⟩:=h;simp at k;subst k;exact⟨v,rfl,h2⟩
 |c::cs,vs,i+1,t,h,k=>by
  simp only[VL]at h;obtain⟨v,rest,rfl,h2,h3⟩:=h;simp at k;simpa using VL.get h3 k
theorem VL.take {ι:Io}:∀{ts:List T} {vs:List Value} (n:Nat),VL ι ts vs->VL ι (ts.take n) (vs.take n)
 |[],vs,n,h=>by simp only[VL]at h;simp[h,VL]
 |c::cs,vs,0,h=>by simp[VL]
 |c::cs,vs,n+1,h=>by
  simp only[VL]at h;obtain⟨v,rest,rfl,h2,h3⟩:=h;simp only[List.take_succ_cons,VL];exact⟨v,_,rfl,h2,VL.take n h3⟩
theorem VL.drop {ι:Io}:∀{ts:List T} {vs:List Value} (n:Nat),VL ι ts vs->VL ι (ts.drop n) (vs.drop n)
 |[],vs,n,h=>by simp only[VL]at h;simp[h,VL]
 |c::cs,vs,0,h=>by simpa using h
 |c::cs,vs,n+1,h=>by
  simp only[VL]at h;obtain⟨v,rest,rfl,h2,h3⟩:=h;simpa using VL.drop n h3
theorem VL.set {ι:Io}:∀{ts:List T} {vs:List Value} {i:Nat} {t:T} {v:Value},VL ι ts vs->VR ι t v->VL ι (ts.set i t) (vs.set i v)
 |[],vs,i,t,v,h,k=>by simp only[VL]at h;simp[h,VL]
 |c::cs,vs,0,t,v,h,k=>by
  simp only[VL]at h;obtain⟨u,rest,rfl,h2,h3⟩:=h;simp only[List.set_cons_zero,VL];exact⟨v,rest,rfl,k,h3⟩
 |c::cs,vs,i+1,t,v,h,k=>by
  simp only[VL]at h;obtain⟨u,rest,rfl,h2,h3⟩:=h;simp only[List.set_cons_succ,VL];exact⟨u,_,rfl,h2,VL.set h3 k⟩
end Go.Run
namespace Go.Run
open Go Go.Eng
noncomputable def ER (ι:Io)(x:T×T×Nat)(e:MapEntry):Prop:=VR ι x.1 e.key/\VR ι x.2.1 e.val/\x.2.2=e.born
noncomputable def EL (ι:Io):List (T×T×Nat)->List MapEntry->Prop
 |[],l=>l=[]
 |x::xs,l=>∃e r,l=e::r/\ER ι x e/\EL ι xs r
theorem EL.mono {ι ι':Io}(hs:Sub ι ι'):∀{xs:List (T×T×Nat)} {l:List MapEntry},EL ι xs l->EL ι' xs l
 |[],l,h=>h
 |x::xs,l,⟨e,r,h1,h2,h3⟩=>⟨e,r,h1,⟨VR.mono hs _ h2.1,VR.mono hs _ h2.2.1,h2.2.2⟩,EL.mono hs h3⟩
structure RE (ι:Io)(m:Fm)(e:E)(er:Env):Prop where
 len:er.length=m.n
 fit:m.n<=2^m.dp
 get:∀i,i<m.n->VR ι (En.get (Pa.of m.dp i) e) (er.getD i undef)
theorem RE.mono {ι ι':Io}(hs:Sub ι ι'){m:Fm}{e:E}{er:Env}(h:RE ι m e er):RE ι' m e er:=⟨h.len,h.fit,fun i hi=>VR.mono hs _ (h.get i hi)⟩
noncomputable def jZ (es:List (T×T×Nat))(clock:Nat):Prop:=(es.map (·.2.2)).Pairwise (·<·)/\∀x∈es,x.2.2<clock
noncomputable def Xa (es es':List (T×T×Nat))(j j':Nat):Prop:=(∃y,es[j]? =some y/\es'[j']? =some y)/\(es'.take j').Sublist (es.take j)
noncomputable def VO.am:VO->Bool| .tZ _ _ _=>true|_=>false
noncomputable def bZ (s:S)(b:Nat):Bool:=match s.at b with|some o=>o.am|none=>false
noncomputable def Lg (since:Nat)(seen:List Nat)(arr:Array Nat):Prop:=(∀w,w<since->arr.contains w=seen.any fun b=>Nat.beq b w)/\∀w,seen.getLast? =some w->w<since->arr.back? =some w
noncomputable def OR (P:Program)(ι:Io)(x:Inf):VO->Obj->Prop
 | .row cs ct tail,o=>∃cur,o= .cells cur ct (0,0)/\cs.length<=cur.size/\VL ι cs (cur.toList.take cs.length)/\(tail=false->cur.size=cs.length)/\
  (tail=true->0<szT P ct/\cur.size=x.cap*szT P ct/\x.cap<=maxLen)
 | .ro cs ct,o=>∃cur fr,o= .cells cur ct fr/\cs.length<=cur.size/\VL ι cs (cur.toList.take cs.length)
 | .map es clock,o=>∃ents,o= .map ents clock/\EL ι es ents.toList/\jZ es clock
 | .pO s pos,o=>o= .stringIter ⟨⟨s⟩⟩ pos
 | .iU mp since seen last,o=>∃y,ι mp=some y/\o= .mapIter (some y.r) since seen.toArray last
 | .loop st pend dp n tm pa asg bd df,o=>∃fn tr y,ι df=some y/\o= .loop {state:=st,pending:=pend,fn,tmps:=tr,params:=pa.toArray,assign:=asg,body:=bd,defers:=y.r}/\RE ι ⟨dp,n⟩ tm tr.toList
 | .uf true,o=>o= .deferred (some [])
 | .uf false,o=>o= .deferred none
 | .tZ es j del,o=>∃es' j' e,EL ι es' x.gh.toList/\jZ es' x.clock/\Xa es es' j j'/\x.gh[j']? =some e/\e.born=x.w/\o= .map (if del then x.gh.eraseIdxIfInBounds j' else x.gh) x.clock
 | .bag els ct,o=>∃(els':List (List T)) (cur:Array Value),List.Perm els' els/\o= .cells cur ct (0,0)/\els'.flatten.length<=cur.size/\VL ι els'.flatten (cur.toList.take els'.flatten.length)/\0<szT P ct/\cur.size=x.cap*szT P ct/\x.cap<=maxLen
 | .iB mp since w last,o=>∃y arr,ι mp=some y/\o= .mapIter (some y.r) since arr last/\arr.back? =some w
 | .iG mp since seen last,o=>∃y arr c,ι mp=some y/\o= .mapIter (some y.r) since arr c/\Lg since seen arr/\since<=c/\(since<=last->c=last)
 | .BL mp since k bs,o=>∃y arr c,ι mp=some y/\o= .mapIter (some y.r) since arr c/\since<=c/\∃sn:List Nat,sn.Nodup/\sn.length=k/\(∀w∈sn,w∈bs)/\∀w,w<since->(arr.contains w=true<->w∈sn)
 | .pick mp,o=>∃y since seen,ι mp=some y/\o= .mapIter (some y.r) since seen y.clock/\seen.back? =some y.w
theorem OR.mono {P:Program}{ι ι':Io}(hs:Sub ι ι'){x:Inf}:∀{o:VO} {ob:Obj},OR P ι x o ob->OR P ι' x o ob
 | .row cs ct tail,ob,⟨cur,h1,h2,h3,h4⟩=>⟨cur,h1,h2,VL.mono hs _ h3,h4⟩
 | .ro cs ct,ob,⟨cur,fr,h1,h2,h3⟩=>⟨cur,fr,h1,h2,VL.mono hs _ h3⟩
 | .map es clock,ob,⟨ents,h1,h2,h3⟩=>⟨ents,h1,EL.mono hs h2,h3⟩
 | .pO s pos,ob,h=>h
 | .iU mp since seen last,ob,⟨y,h1,h2⟩=>⟨y,hs _ _ h1,h2⟩
 | .loop st pend dp n tm pa asg bd df,ob,⟨fn,tr,y,h1,h2,h3⟩=>⟨fn,tr,y,hs _ _ h1,h2,h3.mono hs⟩
 | .uf true,ob,h=>h
 | .uf false,ob,h=>h
 | .tZ es j del,ob,⟨es',j',e,h0,h1⟩=>⟨es',j',e,EL.mono hs h0,h1⟩
 | .bag els ct,ob,⟨els',cur,h1,h2,h3,h4,h5⟩=>⟨els',cur,h1,h2,h3,VL.mono hs _ h4,h5⟩
 | .iB mp since w last,ob,⟨y,arr,h1,h2⟩=>⟨y,arr,hs _ _ h1,h2⟩
 | .iG mp since seen last,ob,⟨y,arr,c,h1,h2⟩=>⟨y,arr,c,hs _ _ h1,h2⟩
 | .BL mp since k bs,ob,⟨y,arr,c,h1,h2⟩=>⟨y,arr,c,hs _ _ h1,h2⟩
 | .pick mp,ob,⟨y,since,seen,h1,h2⟩=>⟨y,since,seen,hs _ _ h1,h2⟩
structure Sim (P:Program)(ι:Io)(s:S)(h:Heap):Prop where
 fresh:∀b x,ι b=some x->b<s.nx/\x.r<h.size
 inj:∀b c x y,s.at b≠none->s.at c≠none->ι b=some x->ι c=some y->x.r=y.r->b=c
 obj:∀b o,s.at b=some o->∃x ob,ι b=some x/\h[x.r]? =some ob/\OR P ι x o ob
structure Ste (ι:Io)(s:S)(h:Heap)(ι':Io)(s':S)(h':Heap):Prop where
 sub:Sub ι ι'
 nx:s.nx<=s'.nx
 low:s'.low<=s.low
 size:h.size<=h'.size
 dead:∀b,b<s.nx->s.at b=none->s'.at b=none
 grow:∀b x,ι' b=some x->ι b=some x\/(s.nx<=b/\(h.size<=x.r\/∃c y,ι c=some y/\y.r=x.r/\s'.low<=c/\s.at c≠none))
 am:∀b x,ι b=some x->bZ s' b=true->bZ s b=true
 old:∀r,r<h.size->(∀b x,ι b=some x->x.r=r->s.at b=none\/(b<s'.low/\bZ s b=false))->h'[r]? =h[r]?
theorem Ste.refl (ι:Io)(s:S)(h:Heap):Ste ι s h ι s h:=⟨fun _ _ h=>h,Nat.le_refl _,Nat.le_refl _,Nat.le_refl _,fun _ _ h=>h,fun _ _ h=> .inl h,fun _ _ _ h=>h,fun _ _ _=>rfl⟩
theorem Ste.trans {ι ι1 ι2:Io}{s s1 s2:S}{h h1 h2:Heap}(hf:∀b x,ι b=some x->b<s.nx/\x.r<h.size)(a:Ste ι s h ι1 s1 h1)(b:Ste ι1 s1 h1 ι2 s2 h2):Ste ι s h ι2 s2 h2:=by
 have live:∀c y,ι c=some y->s1.at c≠none->s.at c≠none:=fun c y hc h1 h2=>h1 (a.dead c (hf c y hc).1 h2)
 refine⟨fun c x hc=>b.sub _ _ (a.sub _ _ hc),Nat.le_trans a.nx b.nx,Nat.le_trans b.low a.low,Nat.le_trans a.size b.size,fun c hc h0=>b.dead c (Nat.lt_of_lt_of_le hc a.nx) (a.dead c hc h0),?_,fun c x hc h=>a.am c x hc (b.am c x (a.sub _ _ hc) h),?_⟩
 .intro c x hc;rcases b.grow c x hc with hc|⟨hn,hc⟩
  .rcases a.grow c x hc with hc|⟨hn,hc⟩
   .exact .inl hc
   .refine .inr ⟨hn,?_⟩;rcases hc with hc|⟨d,y,h3,h4,h5,h6⟩
    .exact .inl hc
    .exact .inr ⟨d,y,h3,h4,Nat.le_trans b.low h5,h6⟩
  .refine .inr ⟨Nat.le_trans a.nx hn,?_⟩;rcases hc with hc|⟨d,y,h3,h4,h5,h6⟩
   .exact .inl (Nat.le_trans a.size hc)
   .rcases a.grow d y h3 with hd|⟨_,hd⟩
    .exact .inr ⟨d,y,hd,h4,h5,live d y hd h6⟩
    .rcases hd with hd|⟨d',y',h6,h7,h8,h9⟩
     .exact .inl (h4▸hd)
     .exact .inr ⟨d',y',h6,h7.trans h4,Nat.le_trans b.low h8,h9⟩
 .intro r hr hb;have h1:=a.old r hr fun c x hc hx=>by
   rcases hb c x hc hx with h0|⟨h0,h3⟩
   .exact .inl h0
   .exact .inr ⟨Nat.lt_of_lt_of_le h0 b.low,h3⟩
  rw[b.old r (Nat.lt_of_lt_of_le hr a.size) ?_,h1];intro c x hc hx;rcases a.grow c x hc with hc|⟨_,hc⟩
  .rcases hb c x hc hx with h0|⟨h0,h3⟩
   .exact .inl (a.dead c (hf c x hc).1 h0)
   .refine .inr ⟨h0,?_⟩;cases ha:bZ s1 c with
    |false=>rfl
    |true=>have:=a.am c x hc ha;rw[h3]at this;cases this
  .rcases hc with hc|⟨d,y,h3,h4,h5,h6⟩
   .omega
   .rcases hb d y h3 (h4.trans hx)with h7|⟨h7,_⟩
    .exact absurd h7 h6
    .exact absurd h7 (by have:=b.low;omega)
end Go.Run
namespace Go.Run
open Go Go.Eng
section steps
variable {P:Program}{ι:Io}{s:S}{h h':Heap}
section
variable {b:Nat}{o:VO}{x:Inf}
theorem bO (s:S)(b c:Nat)(o:Option VO)(nx low:Nat):(bG s b o nx low).at c=if b<=16383/\c=b then o else s.at c:=by
 unfold bG S.at;rw[aJ,aJ,aJ,En.aV];by_cases hb:b<=16383
 .have hb':Nat.ble b 16383=true:=aH.2 hb;simp only[hb',if_true,hb,true_and];by_cases hc:c<=16383
  .have hc':Nat.ble c 16383=true:=aH.2 hc;simp only[hc',if_true];exact En.bT (by omega) (by omega) o s.V
  .have hc':Nat.ble c 16383=false:=by cases h:Nat.ble c 16383 with|false=>rfl|true=>exact absurd (aH.1 h) hc
   have hne:¬c=b:=by omega
   simp[hc',hne]
 .have hb':Nat.ble b 16383=false:=by cases h:Nat.ble b 16383 with|false=>rfl|true=>exact absurd (aH.1 h) hb
  simp[hb',hb]
noncomputable def oam (o:Option VO):Bool:=match o with|some o=>o.am|none=>false
theorem qY (s:S)(b c:Nat)(o:Option VO)(nx low:Nat):bZ (bG s b o nx low) c=if b<=16383/\c=b then oam o else bZ s c:=by
 unfold bZ;rw[bO];by_cases hh:b<=16383/\c=b
 .rw[if_pos hh,if_pos hh];rfl
 .rw[if_neg hh,if_neg hh]
theorem fq (s:S)(b:Nat)(o:Option VO)(nx low:Nat):(bG s b o nx low).nx=nx:=by
 unfold bG;rw[aJ,En.aV];split<;>rfl
theorem iR (s:S)(b:Nat)(o:Option VO)(nx low:Nat):(bG s b o nx low).low=low:=by
 unfold bG;rw[aJ,En.aV];split<;>rfl
theorem iI (a b:Nat):dz a b=min a b:=by
 unfold dz;by_cases h:a<=b
 .rw[aH.2 h];show a=min a b;omega
 .cases hb:Nat.ble a b with
  |true=>exact absurd (aH.1 hb) h
  |false=>simp;omega
theorem zX (s:S)(o:VO):fM s o=bG s s.nx (some o) (s.nx+1) s.low:=by unfold fM;rw[dR,dR]
theorem Nk {s:S}(hb:s.at b=some o):b<=16383:=by
 unfold S.at at hb;rw[aJ]at hb;split at hb
 .rename_i h;exact aH.1 h
 .cases hb
noncomputable def Io.put (ι:Io)(b:Nat)(x:Inf):Io:=fun c=>if c=b then some x else ι c
theorem Io.gU {ι:Io}(hb:ι b=none):Sub ι (ι.put b x):=by
 intro c y hc;unfold Io.put;split
 .rename_i h;subst h;rw[hb]at hc;cases hc
 .exact hc
theorem Io.dm {ι:Io}:(ι.put b x) b=some x:=by simp[Io.put]
theorem Sim.pI (H:Sim P ι s h)(hb:s.nx<=b):ι b=none:=by
 cases hx:ι b with
 |none=>rfl
 |some x=>have:=(H.fresh b x hx).1;omega
theorem jQ (H:Sim P ι s h){ob:Obj}(hr:x.r=h.size)(ho:OR P (ι.put s.nx x) x o ob):
 Sim P (ι.put s.nx x) (fM s o) (h.push ob)/\Ste ι s h (ι.put s.nx x) (fM s o) (h.push ob):=by
 have hn:=H.pI (Nat.le_refl s.nx);have hsub:=Io.gU (x:=x) hn;rw[zX];refine⟨⟨?_,?_,?_⟩,⟨hsub,by rw[fq];omega,by rw[iR];exact Nat.le_refl _,by simp,fun b hb h0=>(by rw[bO,if_neg (by omega)];exact h0),?_,?_,?_⟩⟩
 .intro b y hy;rw[fq];unfold Io.put at hy;split at hy
  .rename_i hb;subst hb;cases hy;simp[hr]
  .have:=H.fresh b y hy;simp;omega
 .intro b c y z hb hc hy hz hyz;rw[bO]at hb hc;unfold Io.put at hy hz;by_cases hb':b=s.nx<;>by_cases hc':c=s.nx
  .omega
  .simp only[hb',if_true,hc',if_false,Option.some.injEq]at hy hz;have:=(H.fresh c z hz).2;subst hy;omega
  .simp only[hb',if_false,hc',if_true,Option.some.injEq]at hy hz;have:=(H.fresh b y hy).2;subst hz;omega
  .simp only[hb',hc',if_false]at hy hz;simp only[hb',and_false,if_false]at hb;simp only[hc',and_false,if_false]at hc;exact H.inj b c y z hb hc hy hz hyz
 .intro b o' hb;rw[bO]at hb;split at hb
  .rename_i hh;obtain⟨_,rfl⟩:=hh;cases hb;exact⟨x,ob,Io.dm,by rw[hr];simp,ho⟩
  .obtain⟨y,ob',h1,h2,h3⟩:=H.obj b o' hb;refine⟨y,ob',hsub _ _ h1,?_,h3.mono hsub⟩;rw[Array.getElem?_push,if_neg (by have:=(H.fresh b y h1).2;omega)];exact h2
 .intro b y hy;unfold Io.put at hy;split at hy
  .rename_i hb;subst hb;cases hy;exact .inr ⟨Nat.le_refl _,.inl (by omega)⟩
  .exact .inl hy
 .intro b y hy ha;have:=(H.fresh b y hy).1;rw[qY,if_neg (by omega)]at ha;exact ha
 .intro r hr' _;rw[Array.getElem?_push,if_neg (by omega)]
theorem kg (H:Sim P ι s h){o0:VO}{ob:Obj}(h0:s.at b=some o0)(hx:ι b=some x)(ho:OR P ι x o ob)(u:Upd h h' x.r)(hg:h'[x.r]? =some ob){low:Nat}(hl:low<=s.low)(hl':low<=b\/o0.am=true)(ha:o.am=true->o0.am=true):
 Sim P ι (bG s b (some o) s.nx low) h'/\Ste ι s h ι (bG s b (some o) s.nx low) h':=by
 have hb16:=Nk h0;refine⟨⟨?_,?_,?_⟩,⟨fun _ _ h=>h,by rw[fq];exact Nat.le_refl _,by rw[iR];exact hl,by rw[u.size];exact Nat.le_refl _,fun c hc hc0=>(by
  rw[bO];split
  .rename_i hh;rw[hh.2,h0]at hc0;cases hc0
  .exact hc0),fun c y hy=> .inl hy,?_,?_⟩⟩
 .intro c y hy;rw[fq,u.size];exact H.fresh c y hy
 .intro c d y z hc hd hy hz hyz;have live:∀c,(bG s b (some o) s.nx low).at c≠none->s.at c≠none:=by
   intro c hc;rw[bO]at hc;split at hc
   .rename_i hh;rw[hh.2,h0];simp
   .exact hc
  exact H.inj c d y z (live c hc) (live d hd) hy hz hyz
 .intro c o' hc;rw[bO]at hc;split at hc
  .rename_i hh;obtain⟨_,rfl⟩:=hh;cases hc;exact⟨x,ob,hx,hg,ho⟩
  .rename_i hh;have hcb:c≠b:=fun hcb=>hh ⟨hb16,hcb⟩
   obtain⟨y,ob',h1,h2,h3⟩:=H.obj c o' hc;refine⟨y,ob',h1,?_,h3⟩;exact u.get h2 fun hyr=>hcb (H.inj c b y x (by rw[hc];simp) (by rw[h0];simp) h1 hx hyr)
 .intro c y hy hc;rw[qY]at hc;split at hc
  .rename_i hh;unfold bZ;rw[hh.2,h0];exact ha hc
  .exact hc
 .intro r hr hb';by_cases hrx:r=x.r
  .have:=hb' b x hx hrx.symm;rw[iR,h0]at this;rcases this with this|this
   .cases this
   rcases hl' with hl'|hl'
   .omega
   .have h2:=this.2;unfold bZ at h2;rw[h0]at h2;simp only at h2;rw[hl']at h2;cases h2
  .exact u.old r hrx
theorem Lh (H:Sim P ι s h)(b:Nat){low:Nat}(hl:low<=s.low):Sim P ι (bG s b none s.nx low) h/\Ste ι s h ι (bG s b none s.nx low) h:=by
 refine⟨⟨?_,?_,?_⟩,⟨fun _ _ h=>h,by rw[fq];exact Nat.le_refl _,by rw[iR];exact hl,Nat.le_refl _,fun c hc hc0=>(by
  rw[bO];split
  .rfl
  .exact hc0),fun c y hy=> .inl hy,?_,fun _ _ _=>rfl⟩⟩
 .intro c y hy;rw[fq];exact H.fresh c y hy
 .intro c d y z hc hd hy hz hyz;rw[bO]at hc hd;have e1:s.at c≠none:=by intro h0;rw[h0]at hc;simp at hc
  have e2:s.at d≠none:=by intro h0;rw[h0]at hd;simp at hd
  exact H.inj c d y z e1 e2 hy hz hyz
 .intro c o' hc;rw[bO]at hc;split at hc
  .cases hc
  .exact H.obj c o' hc
 .intro c y hy hc;rw[qY]at hc;split at hc
  .cases hc
  .exact hc
end
end steps
end Go.Run
namespace Go.Run
open Go Go.Eng
noncomputable def Xm (P:Program)(g:FuncId)(k:TypeId):Prop:=
 ∀(h:Heap) (r:Nat) (c d:Value),h[r]? =some (.cells #[c,d] k (0,0))->c= .pointer none\/c= .pointer (some ⟨r,0,none⟩)->
  ak P g #[.pointer (some ⟨r,0,none⟩)] h (fun v h'=>v= .tuple #[]/\h'=h.setIfInBounds r (.cells #[.pointer (some ⟨r,0,none⟩),d] k (0,0)))
noncomputable def TJ (P:Program)(g:FuncId):X->Prop
 | .no=>True
 | .mnz el=>∃ps t,P.underlying t=some (.slice el)/\∀(args:Array Value) (w:World),(callFunc g args).run P w=((Extern.BytealgMakeNoZero.makeNoZero ps #[t] args).run P w).andThen fun v w'=> .ok (.value v) w'
 | .cnt=>∀(args:Array Value) (w:World),(callFunc g args).run P w=((Extern.BytealgCount.count args).run P w).andThen fun v w'=> .ok (.value v) w'
 | .idx=>∀(args:Array Value) (w:World),(callFunc g args).run P w=((Extern.BytealgIndexByte.indexByte args).run P w).andThen fun v w'=> .ok (.value v) w'
 | .cpy k=>Xm P g k
 | .tru=>∀h:Heap,ak P g #[] h (fun v h'=>v= .bool true/\Ext h h')
structure Ok (P:Program)(p:Pr):Prop where
 ext:∀g,TJ P g (p.ext g)
 ty:∀t ti,p.ty t=some ti->Wh P t=some {ti with fl:=[]}/\(ti.fl=[]\/flT P t=ti.fl)
 fn:∀f fi,p.fn f=some fi->NA P f=some fi
 mixed:P.follows .mixedOrders=true
section tables
variable {P:Program}{p:Pr}{ι:Io}
theorem Uh {v:Value}{t:T}(h:toT v=some t):VR ι t v:=by
 unfold toT at h;split at h
 .cases h;simp only[VR]
 .cases h;simp only[VR]
 .cases h;simp only[VR]
 .cases h;simp only[VR]
 .cases h;simp only[VR]
 .cases h;simp only[VR]
 .cases h;simp only[VR]
 .cases h;simp only[VR]
 .rename_i g a b;split at h
  .rename_i ha hb;cases h;have ha':a= #[]:=by apply Array.toList_inj.1;simpa using ha
   have hb':b= #[]:=by apply Array.toList_inj.1;simpa using hb
   subst ha' hb';simp only[VR];exact⟨_,_,rfl,by simp[VL],by simp[VL]⟩
  .cases h
 .cases h
theorem F7:∀{vs:List Value} {ts:List T},vs.mapM toT=some ts->VL ι ts vs
 |[],ts,h=>by simp at h;subst h;simp[VL]
 |v::vs,ts,h=>by
  rw[List.mapM_cons]at h;cases h1:toT v with
  |none=>simp[h1]at h
  |some t=>
   cases h2:vs.mapM toT with
   |none=>simp[h1,h2]at h
   |some r=>
    simp[h1,h2]at h;subst h;simp only[VL];exact⟨v,vs,rfl,Uh h1,F7 h2⟩
theorem NT {v:Value}{t:T}(h:Vf v=some t):VR ι t v:=by
 unfold Vf at h;split at h
 .rename_i cs;obtain⟨ts,h1,rfl⟩:=Option.map_eq_some_iff.1 h;simp only[VR];exact⟨cs,rfl,F7 h1⟩
 .rename_i cs;obtain⟨ts,h1,rfl⟩:=Option.map_eq_some_iff.1 h;simp only[VR];exact⟨cs,rfl,F7 h1⟩
 .exact Uh h
structure TF (P:Program)(t:TypeId)(ti:TI):Prop where
 size:szT P t=ti.size
 info:∃i,P.info? t=some i/\i.size=ti.size/\i.bytes=ti.bytes
 zero:∃z,dJ P t=some z/\∀ι,VR ι ti.zero z
 und:∃d,P.underlying t=some d
 d:ti.d=mkD P t
 okf:∀d,P.underlying t=some d->JD P t d=true
 fl:ti.fl=[]\/flT P t=ti.fl
theorem TF.isSome {t:TypeId}{ti:TI}(H:TF P t ti):(P.info? t).isSome=true:=by obtain⟨i,h,_⟩:=H.info;simp[h]
theorem Ok.tf (H:Ok P p){t:TypeId}{ti:TI}(h:p.ty t=some ti):TF P t ti:=by
 obtain⟨h,hfl⟩:=H.ty t ti h;obtain⟨z0,b0,y0,d0,f0⟩:=ti;unfold Wh at h;split at h
 .rename_i i d hi hu;split at h
  case h_2=>cases h
  .rename_i z hz hfo;cases h;obtain⟨v,h1,h2⟩:=Option.bind_eq_some_iff.1 hz;exact⟨by simp[szT,hi],⟨i,hi,rfl,rfl⟩,⟨v,by simp[dJ,hi,h1],fun ι=>NT h2⟩,⟨d,hu⟩,rfl,fun d' hd'=>by rw[hu]at hd';cases hd';exact hfo,hfl⟩
 .cases h
theorem TF.agg {t:TypeId}{ti:TI}(H:TF P t ti):zF P t=some (yG ti.d):=by
 obtain⟨d,hd⟩:=H.und;rw[H.d];unfold zF mkD;rw[hd];cases d<;>rfl
end tables
section ops
variable {P:Program}{p:Pr}{ι:Io}{s:S}{h:Heap}{m:Fm}{e:E}{er:Env}
noncomputable def Post (P:Program)(ι:Io)(s:S)(h:Heap)(t:T)(s':S):Value->Heap->Prop:=fun v h'=>∃ι',Ste ι s h ι' s' h'/\Sim P ι' s' h'/\VR ι' t v
theorem Post.pure (H:Sim P ι s h){t:T}{v:Value}(hv:VR ι t v):Post P ι s h t s v h:=⟨ι,Ste.refl ..,H,hv⟩
theorem iY (re:RE ι m e er)(t:Nat):VR ι (bu m e t) (er.getD t undef):=by
 unfold bu;rw[aJ];split
 .rename_i ht;exact re.get t (aH.1 ht)
 .rename_i ht;have:er.length<=t:=by
   rw[re.len];rcases Nat.lt_or_ge t m.n with h|h
   .exact absurd (aH.2 h) ht
   .exact h
  simp[fB,List.getD,List.getElem?_eq_none this,VR,undef,VL]
theorem ai (re:RE ι m e er){x:Operand}{t:T}(hx:opd m e x=some t):VR ι t (ev er x):=by
 cases x with
 |tmp i=>simp only[opd,Option.some.injEq]at hx;subst hx;exact iY re i
 |const v=>exact NT hx
 |func f=>simp only[opd,Option.some.injEq]at hx;subst hx;simp only[VR,ev];exact⟨_,_,rfl,by simp[VL],by simp[VL]⟩
 |global g=>cases hx
theorem fD {s s':S}{v:Option T}{t:T}(hp:pu s v=some (t,s')):v=some t/\s'=s:=by
 unfold pu at hp;cases v with
 |none=>cases hp
 |some v=>have:some (v,s)=some (t,s'):=hp;cases this;exact⟨rfl,rfl⟩
theorem row_of (H:Sim P ι s h){b:Nat}{cs:List T}(hb:rowAt s b=some cs){x:Inf}(hx:ι b=some x):
 ∃ct fr cur,h[x.r]? =some (.cells cur ct fr)/\cs.length<=cur.size/\VL ι cs (cur.toList.take cs.length):=by
 unfold rowAt at hb;split at hb
 .rename_i cs' ct tl hs;cases hb;obtain⟨y,ob,h1,h2,h3⟩:=H.obj b _ hs;rw[hx]at h1;cases h1;obtain⟨cur,rfl,h4,h5,_⟩:=h3;exact⟨ct,_,cur,h2,h4,h5⟩
 .rename_i cs' ct hs;cases hb;obtain⟨y,ob,h1,h2,h3⟩:=H.obj b _ hs;rw[hx]at h1;cases h1;obtain⟨cur,fr,rfl,h4,h5⟩:=h3;exact⟨ct,fr,cur,h2,h4,h5⟩
 .cases hb
theorem VL.sub {cs:List T}{cur:List Value}(H:VL ι cs (cur.take cs.length)){o n:Nat}(hn:o+n<=cs.length):VL ι ((cs.drop o).take n) ((cur.drop o).take n):=by
 have:=(H.drop o).take n;rwa[List.drop_take,List.take_take,Nat.min_eq_left (by omega)]at this
theorem Gj (ok:Ok P p)(H:Sim P ι s h){t:TypeId}{x v:T}{xv:Value}(hx:VR ι x xv)(hl:loadT p s t x=some v){K:Value->Heap->Prop}(hk:∀u,VR ι v u->K u h):fU P t xv h K:=by
 unfold loadT at hl;split at hl
 .rename_i b o;simp only[VR]at hx;obtain⟨y,hy,rfl⟩:=hx;split at hl
  .rename_i ti cs hti hcs;have tf:=ok.tf hti;obtain⟨ct,fr,cur,hh,hle,hvl⟩:=row_of H hcs hy;split at hl
   .rename_i hag;split at hl
    .rename_i hn;cases hl;have hn:=aH.1 hn;rw[EB (by rw[tf.agg,hag]) tf.isSome];have:gm h (some ⟨y.r,o,none⟩) (szT P t)=some ((cur.toList.drop o).take ti.size):=by
      simp only[gm,hh,tf.size];rw[if_pos (by simp;omega)]
     rw[this,Ai];refine hk _ ?_;simp only[VR];exact⟨_,rfl,by simpa using hvl.sub hn⟩
    .cases hl
   .rename_i hag;rw[Dg (by rw[tf.agg,hag])];obtain⟨u,h1,h2⟩:=hvl.get hl;have hlt:=(List.getElem?_eq_some_iff.1 hl).1;have:jL h (some ⟨y.r,o,none⟩)=some u:=by
     simp only[jL,hh];rw[List.getElem?_take,if_pos hlt]at h1;simpa using h1
    rw[this,qI];exact hk _ h2
  .cases hl
 .cases hl
end ops
end Go.Run
namespace Go.Run
open Go Go.Eng
section ops2
variable {P:Program}{p:Pr}{ι:Io}{s:S}{h:Heap}{m:Fm}{e:E}{er:Env}
section
variable {cs:List T}{o:Nat}{vs:List T}
theorem Sy {t:T}{v:Value}(ho:vo t=true)(hv:VR ι t v):one v=true/\v.cells= #[v]:=by
 cases t<;>simp only[vo,Bool.false_eq_true]at ho<;>simp only[VR]at hv
 case bool=>subst hv;exact⟨rfl,rfl⟩
 case int=>subst hv;exact⟨rfl,rfl⟩
 case str=>subst hv;exact⟨rfl,rfl⟩
 case rZ=>subst hv;exact⟨rfl,rfl⟩
 case ptr=>obtain⟨x,_,rfl⟩:=hv;exact⟨rfl,rfl⟩
 case dh=>subst hv;exact⟨rfl,rfl⟩
 case slice=>obtain⟨x,_,rfl⟩:=hv;exact⟨rfl,rfl⟩
 case own=>obtain⟨x,_,rfl,_⟩:=hv;exact⟨rfl,rfl⟩
 case sub=>obtain⟨x,c,_,rfl,_⟩:=hv;exact⟨rfl,rfl⟩
 case empty=>obtain⟨x,c,rfl⟩:=hv;exact⟨rfl,rfl⟩
 case res=>obtain⟨z,rfl,_⟩:=hv;exact⟨rfl,rfl⟩
 case pY=>subst hv;exact⟨rfl,rfl⟩
 case map=>obtain⟨x,_,rfl⟩:=hv;exact⟨rfl,rfl⟩
 case func f a b=>
  split at hv
  .obtain⟨_,_,x,_,rfl⟩:=hv;exact⟨rfl,rfl⟩
  .obtain⟨c,d,rfl,_⟩:=hv;exact⟨rfl,rfl⟩
 case nC=>subst hv;exact⟨rfl,rfl⟩
 case iM=>subst hv;exact⟨rfl,rfl⟩
theorem wD:∀{ts:List T} {vs:List Value},VL ι ts vs->ts.all vo=true->vs.all one=true
 |[],vs,h,_=>by simp only[VL]at h;simp[h]
 |t::ts,vs,h,ho=>by
  simp only[VL]at h;obtain⟨v,r,rfl,h1,h2⟩:=h;simp only[List.all_cons,Bool.and_eq_true]at ho ⊢;exact⟨(Sy ho.1 h1).1,wD h2 ho.2⟩
theorem KG {t:T}{v:Value}(hv:VR ι t v)(ho:(dV t).all vo=true):VL ι (dV t) v.cells.toList/\v.cells.toList.all one=true:=by
 have key:VL ι (dV t) v.cells.toList:=by
  by_cases ha:∃cs,t= .agg cs
  .obtain⟨cs,rfl⟩:=ha;simp only[VR]at hv;obtain⟨vs,rfl,h1⟩:=hv;exact h1
  .have hc:dV t=[t]:=by cases t<;>first|rfl|exact absurd ⟨_,rfl⟩ ha
   rw[hc]at ho ⊢;simp only[List.all_cons,List.all_nil,Bool.and_true]at ho;obtain⟨_,h2⟩:=Sy ho hv;rw[h2];simp only[VL];exact⟨v,[],rfl,hv,rfl⟩
 exact⟨key,wD key ho⟩
theorem Fz {c:List T}(hl:o+vs.length<=c.length):(spl c o vs).length=c.length:=by
 simp[spl];omega
theorem Gf {c:List Value}{L:Nat}{vs:List Value}(hl:o+vs.length<=L)(hL:L<=c.length):(splice c o vs).take L=splice (c.take L) o vs:=by
 unfold splice;rw[List.take_take,Nat.min_eq_left (by omega),List.take_append,List.take_of_length_le (by simp;omega)];congr 1;rw[List.drop_take];congr 1;simp;omega
theorem VL.spl {cur:List Value}{us:List Value}(H:VL ι cs cur)(K:VL ι vs us)(_:o+vs.length<=cs.length):VL ι (spl cs o vs) (splice cur o us):=by
 unfold Run.spl splice;rw[K.length];exact((H.take o).append K).append (H.drop _)
theorem Nz {x:Inf}{ct:TypeId}{tl:Bool}{cur:Array Value}{us:List Value}(hle:cs.length<=cur.size)(hv:VL ι cs (cur.toList.take cs.length))(ht:(tl=false->cur.size=cs.length)/\(tl=true->0<szT P ct/\cur.size=x.cap*szT P ct/\x.cap<=maxLen))(K:VL ι vs us)(hl:o+vs.length<=cs.length):
 OR P ι x (.row (spl cs o vs) ct tl) (.cells (splice cur.toList o us).toArray ct (0,0)):=by
 have h1:(splice cur.toList o us).length=cur.size:=by simp[splice,K.length];omega
 refine⟨_,rfl,?_,?_,?_,?_⟩
 .rw[Fz hl];simp[h1];exact hle
 .rw[Fz hl];have:=hv.spl K hl;rw[<-Gf (by rw[K.length];exact hl) (by simpa using hle)]at this;simpa using this
 .intro h;rw[Fz hl];simp[h1,ht.1 h]
 .intro h;simpa[h1]using ht.2 h
theorem qZ (H:Sim P ι s h){b:Nat}{ct:TypeId}{tl:Bool}(hb:s.at b=some (.row cs ct tl)){x:Inf}(hx:ι b=some x):
 ∃cur,h[x.r]? =some (.cells cur ct (0,0))/\cs.length<=cur.size/\VL ι cs (cur.toList.take cs.length)/\((tl=false->cur.size=cs.length)/\(tl=true->0<szT P ct/\cur.size=x.cap*szT P ct/\x.cap<=maxLen)):=by
 obtain⟨y,ob,h1,h2,h3⟩:=H.obj b _ hb;rw[hx]at h1;cases h1;obtain⟨cur,rfl,h4,h5,h6,h7⟩:=h3;exact⟨cur,h2,h4,h5,h6,h7⟩
theorem kR (s:S)(b:Nat)(o:VO):gI s b o=bG s b (some o) s.nx (min s.low b):=by unfold gI;rw[dR,iI]
theorem PV (ok:Ok P p)(H:Sim P ι s h){t:TypeId}{x v:T}{xv vv:Value}(hx:VR ι x xv)(hv:VR ι v vv){s':S}(hl:storeT p s t x v=some s'):
 kw P t xv vv h (Post P ι s h fB s'):=by
 unfold storeT at hl;split at hl
 .rename_i b o;simp only[VR]at hx;obtain⟨y,hy,rfl⟩:=hx;split at hl
  .rename_i ti cs ct tl hti hb;dsimp only at hl;split at hl
   .rename_i hc;cases hl;simp only[Bool.and_eq_true]at hc;obtain⟨⟨h1,h2⟩,h3⟩:=hc;have h1:=Nat.eq_of_beq_eq_true h1;have h2:=aH.1 h2;have tf:=ok.tf hti;obtain⟨cur,hh,hle,hvl,htl⟩:=qZ H hb hy;obtain⟨k1,k2⟩:=KG hv h3;have hlen:=k1.length;rw[Dx tf.isSome (by rw[tf.size,<-h1,<-hlen];simp) k2];have hrow:Qt h y.r=some (cur.toList,ct):=by simp[Qt,hh]
    rw[hrow];refine Oy (by simpa using hh) (by rw[hlen];simp;omega) ?_;intro h' hg hu;have hor:=Nz (P:=P) (x:=y) hle hvl htl k1 h2;obtain⟨q1,q2⟩:=kg H hb hy hor hu hg (low:=min s.low b) (Nat.min_le_left _ _) (.inl (Nat.min_le_right _ _)) (by simp[VO.am]);rw[<-kR]at q1 q2;exact⟨ι,q2,q1,by simp[fB,VR,undef,VL]⟩
   .cases hl
  .cases hl
 .cases hl
end
end ops2
end Go.Run
namespace Go.Run
open Go Go.Eng
section ops3
variable {P:Program}{p:Pr}{ι:Io}{s s':S}{h:Heap}{m:Fm}{e:E}{er:Env}{ty:TypeId}{t:T}
section
variable {u:TypeId}{x:Operand}
theorem dw {v:T}{vv:Value}(hv:VR ι v vv)(ho:jE v=true):VL ι (dV v) vv.cells.toList:=by
 by_cases h1:vo v=true
 .exact(KG hv (by cases v<;>simp_all [dV,vo])).1
 .cases v<;>simp only[vo,not_true_eq_false,jE,Bool.false_eq_true]at h1 ho
  case agg cs=>simp only[VR]at hv;obtain⟨vs,rfl,h2⟩:=hv;exact h2
  case tup cs=>
   have hv':=hv;simp only[VR]at hv;obtain⟨vs,rfl,h2⟩:=hv;simp only[dV,Value.cells,VL];exact⟨_,[],rfl,hv',rfl⟩
theorem AC (H:Sim P ι s h){cs:List T}{us:List Value}{ct:TypeId}(hv:VL ι cs us):
 Post P ι s h (.ptr s.nx 0) (fM s (.row cs ct false)) (.pointer (some ⟨h.size,0,none⟩)) (h.push (.cells us.toArray ct)):=by
 have hn:=H.pI (Nat.le_refl s.nx);have:=jQ H (o:= .row cs ct false) (ob:= .cells us.toArray ct (0,0)) (x:=⟨h.size,0,#[],0,0⟩) rfl
  ⟨_,rfl,by simp[hv.length],by have:=VL.mono (Io.gU (x:=⟨h.size,0,#[],0,0⟩) hn) cs hv;rw[<-hv.length];simpa using this,fun _=>by simp[hv.length],fun h=>by cases h⟩
 exact⟨_,this.2,this.1,by simp only[VR];exact⟨_,Io.dm,rfl⟩⟩
theorem YJ (re:RE ι m e er)(H:Sim P ι s h)(hd:GX p m e s x=some (t,s')):aI P (.move x) ty er h (Post P ι s h t s'):=by
 obtain⟨h1,rfl⟩:=fD hd;exact aM (by rw[KJ];exact Post.pure H (ai re h1))
theorem Si (re:RE ι m e er)(H:Sim P ι s h)(hd:yH p m e s x=some (t,s')):aI P (.assign x) ty er h (Post P ι s h t s'):=by
 obtain⟨h1,rfl⟩:=fD hd;exact aM (by rw[Au];exact Post.pure H (ai re h1))
theorem ZK (re:RE ι m e er)(H:Sim P ι s h){c a b:Operand}(hd:AJ p m e s c a b=some (t,s')):aI P (.pick c a b) ty er h (Post P ι s h t s'):=by
 unfold AJ at hd;split at hd
 .rename_i hc;obtain⟨h1,rfl⟩:=fD hd;have hc:=ai re hc;simp only[VR]at hc;exact aM (by rw[AQ,hc,KR];exact Post.pure H (ai re h1))
 .rename_i hc;obtain⟨h1,rfl⟩:=fD hd;have hc:=ai re hc;simp only[VR]at hc;exact aM (by rw[AQ,hc,EX];exact Post.pure H (ai re h1))
 .cases hd
theorem zAx (re:RE ι m e er)(H:Sim P ι s h)(hd:tJ p m e s u x=some (t,s')):aI P (.box u x) ty er h (Post P ι s h t s'):=by
 unfold tJ at hd;split at hd
 .rename_i v hv;split at hd
  .rename_i ha;cases hd;refine aM (by rw[FY];have:=AC H (ct:=u) (dw (ai re hv) ha);simpa using this)
  .cases hd
 .cases hd
theorem Uz (ok:Ok P p)(H:Sim P ι s h)(hd:nJ p m e s u=some (t,s')):aI P (.alloc u) ty er h (Post P ι s h t s'):=by
 unfold nJ at hd;split at hd
 .rename_i ti hti;split at hd
  .rename_i ha;cases hd;have tf:=ok.tf hti;obtain⟨z,h1,h2⟩:=tf.zero;refine aM (by rw[wZ,h1,BR];have:=AC H (ct:=u) (dw (h2 ι) ha);simpa using this)
  .cases hd
 .cases hd
theorem UC (ok:Ok P p)(re:RE ι m e er)(H:Sim P ι s h)(hd:rQ p m e s u x=some (t,s')):aI P (.load u x) ty er h (Post P ι s h t s'):=by
 unfold rQ at hd;split at hd
 .rename_i v hv;obtain⟨h1,rfl⟩:=fD hd;exact aM (by rw[Jf];exact Gj ok H (ai re hv) h1 fun u hu=>Post.pure H hu)
 .cases hd
theorem Ve (ok:Ok P p)(re:RE ι m e er)(H:Sim P ι s h){a:Operand}(hd:uX p m e s u a x=some (t,s')):aI P (.store u a x) ty er h (Post P ι s h t s'):=by
 unfold uX at hd;split at hd
 .rename_i av xv ha hx;split at hd
  .rename_i s1 hs;cases hd;exact aM (by rw[EJ];exact PV ok H (ai re ha) (ai re hx) hs)
  .cases hd
 .cases hd
theorem Qe (re:RE ι m e er)(H:Sim P ι s h){i:Nat}(hd:oQ p m e s x i=some (t,s')):aI P (.extract x i) ty er h (Post P ι s h t s'):=by
 unfold oQ at hd;split at hd
 .rename_i vs hv;obtain⟨h1,rfl⟩:=fD hd;have hv:=ai re hv;simp only[VR]at hv;obtain⟨us,h2,h3⟩:=hv;obtain⟨u,h4,h5⟩:=h3.get h1;have h4:us[i]? =some u:=by simpa using h4
  exact aM (by rw[yg,h2];simp only[exW,h4,qI];exact Post.pure H h5)
 .cases hd
theorem NB (re:RE ι m e er)(H:Sim P ι s h)(hd:mQ p m e s x=some (t,s')):aI P (.nilCheck x) ty er h (Post P ι s h t s'):=by
 unfold mQ at hd;split at hd
 .rename_i b o hv;cases hd;have hv:=ai re hv;have hv':=hv;simp only[VR]at hv;obtain⟨y,h2,h3⟩:=hv;exact aM (by rw[uz,h3];simp only[ncW];exact Post.pure H (h3▸hv'))
 .cases hd
end
end ops3
end Go.Run
namespace Go.Run
open Go Go.Eng
section nums
theorem mU (a b:Int):yF a b=decide (a=b):=by
 cases a<;>cases b<;>simp only[yF]
 .rename_i a b;by_cases h:a=b
  .subst h;simp
  .have:Nat.beq a b=false:=by cases hb:Nat.beq a b with|false=>rfl|true=>exact absurd (Nat.eq_of_beq_eq_true hb) h
   simp only[this,Int.ofNat_eq_natCast];symm;rw[decide_eq_false_iff_not];omega
 .simp
 .simp
 .rename_i a b;by_cases h:a=b
  .subst h;simp
  .have:Nat.beq a b=false:=by cases hb:Nat.beq a b with|false=>rfl|true=>exact absurd (Nat.eq_of_beq_eq_true hb) h
   simp[this,h]
theorem bX {a b:Nat}:Nat.blt a b=true<->a<b:=by unfold Nat.blt;rw[aH];omega
theorem oU (a b:Int):ltI a b=decide (a<b):=by
 cases a<;>cases b<;>simp only[ltI]
 .rename_i a b;rw[Bool.eq_iff_iff,bX,decide_eq_true_iff];simp only[Int.ofNat_eq_natCast];omega
 .rename_i a b;symm;rw[decide_eq_false_iff_not];simp only[Int.ofNat_eq_natCast];omega
 .rename_i a b;symm;rw[decide_eq_true_iff];simp only[Int.ofNat_eq_natCast];omega
 .rename_i a b;rw[Bool.eq_iff_iff,bX,decide_eq_true_iff];omega
theorem tF (a b:Int):leI a b=decide (a<=b):=by
 unfold leI;rw[oU];by_cases h:a<=b
 .simp[h,Int.not_lt.2 h]
 .simp[h,Int.not_le.1 h]
theorem RJ {k:IntKind}{n:Int}(h:inK k n=true):InK k n:=by
 unfold inK at h;split at h
 .have:=aH.1 h;simp only[InK,IntKind.min,IntKind.max,IntKind.signed,IntKind.bits,Int.ofNat_eq_natCast];constructor<;>simp<;>omega
 .have:=aH.1 h;simp only[InK,IntKind.min,IntKind.max,IntKind.signed,IntKind.bits];constructor<;>simp<;>omega
 .have:=aH.1 h;simp only[InK,IntKind.min,IntKind.max,IntKind.signed,IntKind.bits,Int.ofNat_eq_natCast];constructor<;>simp<;>omega
 .have:=aH.1 h;simp only[InK,IntKind.min,IntKind.max,IntKind.signed,IntKind.bits,Int.ofNat_eq_natCast];constructor<;>simp<;>omega
 .have:=aH.1 h;simp only[InK,IntKind.min,IntKind.max,IntKind.signed,IntKind.bits];constructor<;>simp<;>omega
 .have:=aH.1 h;simp only[InK,IntKind.min,IntKind.max,IntKind.signed,IntKind.bits,Int.ofNat_eq_natCast];constructor<;>simp<;>omega
 .have:=aH.1 h;simp only[InK,IntKind.min,IntKind.max,IntKind.signed,IntKind.bits,Int.ofNat_eq_natCast];constructor<;>simp<;>omega
 .cases h
theorem jR {k j:IntKind}(h:Ir k j=true):k=j:=by cases k<;>cases j<;>first|rfl|cases h
theorem fu {k:IntKind}{n:Int}{t:T}(h:wY k n=some t):InK k n/\t= .int k n:=by
 unfold wY at h;rw[aJ]at h;split at h
 .rename_i hi;cases h;exact⟨RJ hi,rfl⟩
 .cases h
theorem kI:∀(s t:List UInt8),uR s t=decide (s=t)
 |[],[]=>by simp[uR]
 |[],b::t=>by simp[uR]
 |a::s,[]=>by simp[uR]
 |a::s,b::t=>by
  simp only[uR];by_cases h:a=b
  .subst h;simp[kI s t]
  .have:Nat.beq a.toNat b.toNat=false:=by
    cases hb:Nat.beq a.toNat b.toNat with
    |false=>rfl
    |true=>exact absurd (UInt8.toNat_inj.1 (Nat.eq_of_beq_eq_true hb)) h
   simp[this,h]
end nums
section ops4
variable {P:Program}{p:Pr}{ι:Io}{s s':S}{h:Heap}{m:Fm}{e:E}{er:Env}{ty:TypeId}{t:T}{K:Value->Heap->Prop}
theorem W9 {op:BinOp}{k:IntKind}{a b:Int}(hi:Sq op k a b=some t)(hk:∀u,VR ι t u->K u h):op≠.shl/\op≠.shr/\fI op k a b h K:=by
 unfold Sq at hi;cases op<;>simp only at hi
 case shl=>cases hi
 case shr=>cases hi
 all_goals refine⟨by simp,by simp,?_⟩
 all_goals simp only[fI]
 case add=>obtain⟨h1,rfl⟩:=fu hi;exact⟨h1,hk _ (by simp only[VR];rfl)⟩
 case sub=>obtain⟨h1,rfl⟩:=fu hi;exact⟨h1,hk _ (by simp only[VR];rfl)⟩
 case mul=>obtain⟨h1,rfl⟩:=fu hi;exact⟨h1,hk _ (by simp only[VR];rfl)⟩
 case quo=>
  split at hi
  .cases hi
  .rename_i hb;rw[mU]at hb;obtain⟨h1,rfl⟩:=fu hi;exact⟨by simpa using hb,h1,hk _ (by simp only[VR])⟩
 case rem=>
  split at hi
  .cases hi
  .rename_i hb;rw[mU]at hb;cases hi;exact⟨by simpa using hb,hk _ (by simp only[VR])⟩
 all_goals first
  |(cases hi;exact hk _ (by simp only[VR,mU,oU,tF]))
  |cases hi
theorem TG {op:BinOp}{k:IntKind}{a b:Int}(ho:op= .shl\/op= .shr)(hi:WC op k a b=some t)(hk:∀u,VR ι t u->K u h):fI op k a b h K:=by
 unfold WC at hi;split at hi
 .rename_i h1 h2;rw[tF,decide_eq_true_iff]at h1 h2;rcases ho with rfl|rfl
  .simp only at hi;obtain⟨h3,rfl⟩:=fu hi;exact⟨h1,h2,h3,hk _ (by simp only[VR])⟩
  .simp only at hi;cases hi;exact⟨h1,h2,hk _ (by simp only[VR])⟩
 .cases hi
theorem Kq (a b:List UInt8):(⟨⟨a⟩⟩:ByteArray)++⟨⟨b⟩⟩=⟨⟨a++b⟩⟩:=by
 apply ByteArray.ext;simp
theorem lI (a:List UInt8):(⟨⟨a⟩⟩:ByteArray).size=a.length:=rfl
theorem str_eq (a b:List UInt8):((⟨⟨a⟩⟩:ByteArray)=⟨⟨b⟩⟩)=(a=b):=by simp
end ops4
end Go.Run
namespace Go.Run
open Go Go.Eng
section ops5
variable {P:Program}{p:Pr}{ι:Io}{s s':S}{h:Heap}{m:Fm}{e:E}{er:Env}{ty:TypeId}{t:T}{K:Value->Heap->Prop}
section
variable {ti:TI}{u:TypeId}
theorem TF.slice (H:TF P u ti){el:TypeId}(hd:ti.d= .slice el):P.underlying u=some (.slice el):=by
 obtain⟨d,hu⟩:=H.und;have:=H.d;rw[hd]at this;unfold mkD at this;rw[hu]at this;cases d<;>simp at this;rw[hu,this]
theorem TF.array (H:TF P u ti){n:Nat}{el:TypeId}(hd:ti.d= .array n el):P.underlying u=some (.array n el):=by
 obtain⟨d,hu⟩:=H.und;have:=H.d;rw[hd]at this;unfold mkD at this;rw[hu]at this;cases d<;>simp at this;rw[hu,this.1,this.2]
theorem TF.map (H:TF P u ti){k v:TypeId}(hd:ti.d= .map k v):P.underlying u=some (.map k v):=by
 obtain⟨d,hu⟩:=H.und;have:=H.d;rw[hd]at this;unfold mkD at this;rw[hu]at this;cases d<;>simp at this;rw[hu,this.1,this.2]
theorem TF.int (H:TF P u ti){k:IntKind}(hd:ti.d= .int k):P.underlying u=some (.int k):=by
 obtain⟨d,hu⟩:=H.und;have:=H.d;rw[hd]at this;unfold mkD at this;rw[hu]at this;cases d<;>simp at this;rw[hu,this]
theorem TF.string (H:TF P u ti)(hd:ti.d= .string):P.underlying u=some .string:=by
 obtain⟨d,hu⟩:=H.und;have:=H.d;rw[hd]at this;unfold mkD at this;rw[hu]at this;cases d<;>simp at this;rw[hu]
theorem TF.bool (H:TF P u ti)(hd:ti.d= .bool):P.underlying u=some .bool:=by
 obtain⟨d,hu⟩:=H.und;have:=H.d;rw[hd]at this;unfold mkD at this;rw[hu]at this;cases d<;>simp at this;rw[hu]
theorem TF.lV (H:TF P u ti){fs:List (Nat×TypeId×Nat)}(hd:ti.d= .lV fs):∃gs,P.underlying u=some (.struct gs)/\fs=gs.toList.map fun f=>(f.offset,f.type,szT P f.type):=by
 obtain⟨d,hu⟩:=H.und;have:=H.d;rw[hd]at this;unfold mkD at this;rw[hu]at this;cases d<;>simp at this;exact⟨_,hu,this⟩
theorem Jg (ok:Ok P p)(re:RE ι m e er)(H:Sim P ι s h){x:Operand}{f:Nat}(hd:kK p m e s u x f=some (t,s')):aI P (.fieldAddr u x f) ty er h (Post P ι s h t s'):=by
 unfold kK at hd;split at hd
 .rename_i b o ti hx hti;split at hd
  .rename_i fs hdd;split at hd
   .rename_i off ft sz hf;split at hd
    .rename_i fi hfi;split at hd
     .rename_i hs;cases hd;have tf:=ok.tf hti;obtain⟨gs,hu,rfl⟩:=tf.lV hdd;have tf':=ok.tf hfi;have hx:=ai re hx;simp only[VR]at hx;obtain⟨y,hy,hx⟩:=hx;unfold mV at hf;rw[List.getElem?_map]at hf;obtain⟨fd,hfd,he⟩:=Option.map_eq_some_iff.1 hf;simp only[Prod.mk.injEq]at he;obtain⟨rfl,rfl,rfl⟩:=he;have hfd:gs[f]? =some fd:=by simpa using hfd
      have hoff:jG P u f=some fd.offset:=by
       have hs:=aH.1 hs;simp only[jG,hu,hfd,tf'.isSome,tf'.size];simp;omega
      refine aM (by rw[sJ,hx,hoff,Ue];exact Post.pure H (by simp only[VR];exact⟨y,hy,rfl⟩))
     .cases hd
    .cases hd
   .cases hd
  .cases hd
 .cases hd
theorem uh {x:T}{v:Value}(hv:VR ι x v){b o n:Nat}(hp:fP x=some (b,o,n)):∃y c,ι b=some y/\v= .slice (some ⟨y.r,o,none⟩) n c/\(n<=c\/∃c',x= .slice b o n c'):=by
 unfold fP at hp;split at hp
 .cases hp;simp only[VR]at hv;obtain⟨y,h1,rfl⟩:=hv;exact⟨y,_,h1,rfl,.inr ⟨_,rfl⟩⟩
 .cases hp;simp only[VR]at hv;obtain⟨y,h1,rfl,h2⟩:=hv;exact⟨y,_,h1,rfl,.inl h2⟩
 .cases hp;simp only[VR]at hv;obtain⟨y,c,h1,rfl,h2⟩:=hv;exact⟨y,_,h1,rfl,.inl h2⟩
 .cases hp
theorem ug {n:Int}{len j:Nat}(h:inR n len=some j):n=j/\j<len:=by
 unfold inR at h;split at h
 .split at h
  .rename_i hb;cases h;exact⟨rfl,bX.1 hb⟩
  .cases h
 .cases h
theorem Jt (ok:Ok P p)(re:RE ι m e er)(H:Sim P ι s h){x i:Operand}(hd:jw p m e s u x i=some (t,s')):aI P (.indexAddr u x i) ty er h (Post P ι s h t s'):=by
 unfold jw at hd;split at hd
 .rename_i xv iv hx hi;obtain⟨h1,rfl⟩:=fD hd
  replace hx:=ai re hx
  replace hi:=ai re hi
  clear hd;unfold JN at h1;split at h1
  .rename_i k n;simp only[VR]at hi;split at h1
   .rename_i ti hti;have tf:=ok.tf hti;split at h1
    .rename_i el hdd;split at h1
     .rename_i ei b o len hei hp;have te:=ok.tf hei;split at h1
      .rename_i j hj;cases h1;obtain⟨rfl,hjl⟩:=ug hj;obtain⟨y,c,hy,hv,_⟩:=uh hx hp;refine aM ?_;rw[mi,FH,hv,hi,tf.slice hdd,Dk te.isSome];refine⟨⟨by omega,by omega⟩,rfl,?_⟩;rw[gK];refine Post.pure H ?_;simp only[VR];exact⟨y,hy,by simp[te.size]⟩
      .cases h1
     .cases h1
    .rename_i len el hdd;split at h1
     .rename_i ei b o hei;have te:=ok.tf hei;split at h1
      .rename_i j hj;cases h1;obtain⟨rfl,hjl⟩:=ug hj;simp only[VR]at hx;obtain⟨y,hy,hv⟩:=hx;refine aM (by rw[mi,FH,hv,hi,tf.array hdd,Dv te.isSome];exact⟨⟨by omega,by omega⟩,Post.pure H (by simp only[VR];exact⟨y,hy,by simp[te.size]⟩)⟩)
      .cases h1
     .cases h1
    .cases h1
   .cases h1
  .cases h1
 .cases hd
end
end ops5
end Go.Run
namespace Go.Run
open Go Go.Eng
section ops6
variable {P:Program}{p:Pr}{ι:Io}{s s':S}{h:Heap}{m:Fm}{e:E}{er:Env}{ty:TypeId}{t:T}{K:Value->Heap->Prop}
section
variable {b hi:Int}{k:IntKind}{lo:Int}{op:BinOp}{r:Int}{u:TypeId}{x:Operand}
theorem vI (re:RE ι m e er):∀{xs:List Operand} {ts:List T},qE m e xs=some ts->VL ι ts (xs.map (ev er))
 |[],ts,hx=>by simp only[qE,Option.some.injEq]at hx;subst hx;simp[VL]
 |x::xs,ts,hx=>by
  simp only[qE]at hx;split at hx
  .rename_i a r h1 h2;cases hx;simp only[List.map_cons,VL];exact⟨_,_,rfl,ai re h1,vI re h2⟩
  .cases hx
theorem LU (re:RE ι m e er)(H:Sim P ι s h){fn:Fn}{first caps:Array Operand}(hd:mP p m e s fn first caps=some (t,s')):aI P (.makeFunc fn first caps) ty er h (Post P ι s h t s'):=by
 unfold mP at hd;split at hd
 .rename_i g;split at hd
  .rename_i a b h1 h2;cases hd;refine aM ?_;rw[wC];refine Post.pure H ?_;simp only[VR];exact⟨_,_,rfl,by simpa using vI re h1,by simpa using vI re h2⟩
  .cases hd
 .cases hd
theorem zBI (re:RE ι m e er)(H:Sim P ι s h)(hd:GZ p m e s x=some (t,s')):aI P (.unOp .not u x) ty er h (Post P ι s h t s'):=by
 unfold GZ at hd;split at hd
 .rename_i b hx;cases hd;have hx:=ai re hx;simp only[VR]at hx;refine aM ?_;rw[N8,hx];simp only[ntW];exact Post.pure H (by simp only[VR])
 .cases hd
theorem zA7 (re:RE ι m e er)(H:Sim P ι s h)(hd:Ep p m e s x=some (t,s')):aI P (.unOp .neg u x) ty er h (Post P ι s h t s'):=by
 unfold Ep at hd;split at hd
 .rename_i k n hx;obtain⟨h1,rfl⟩:=fD hd;obtain⟨h2,rfl⟩:=fu h1;have hx:=ai re hx;simp only[VR]at hx;refine aM ?_;rw[NY,hx];simp only[DF];exact⟨h2,Post.pure H (by simp only[VR])⟩
 .cases hd
theorem zBu (re:RE ι m e er)(H:Sim P ι s h){o:UnOp}(hd:Na p m e s o x=some (t,s')):aI P (.unOp o u x) ty er h (Post P ι s h t s'):=by
 unfold Na at hd;split at hd
 .exact zBI re H hd
 .exact zA7 re H hd
 .cases hd
theorem VU {a b:List UInt8}{F:Prop}(hi:(match op with
 | .add=>match Nat.ble (a.length+b.length) 1000000000 with|true=>some (.str (a++b))|false=>none
 | .eql=>some (.bool (uR a b))
 | .neq=>some (.bool (!uR a b))
 |_=>none:Option T)=some t) (hk:∀u,VR ι t u->K u h):Qp op ⟨⟨a⟩⟩ ⟨⟨b⟩⟩ h K F:=by
 cases op<;>simp only at hi<;>try (cases hi;done)
 case add=>
  split at hi
  .rename_i hb;cases hi;have hb:=aH.1 hb;refine⟨by simp only[lI];omega,hk _ ?_⟩;simp only[VR,Kq]
  .cases hi
 case eql=>cases hi;exact hk _ (by simp only[VR,kI,str_eq])
 case neq=>cases hi;exact hk _ (by simp only[VR,kI,str_eq])
theorem JC (re:RE ι m e er)(H:Sim P ι s h){yt:TypeId}{y:Operand}{j:IntKind}{a:Int}(hx:opd m e x=some (.int k a))(hy:opd m e y=some (.int j b))(hb:JJ p op u (.int k a) (.int j b)=some t):aI P (.binOp op u x y yt) ty er h (Post P ι s h t s):=by
 have hx:=ai re hx;have hy:=ai re hy;simp only[VR]at hx hy;refine aM ?_;rw[rH,hx,hy];unfold JJ at hb;simp only at hb;unfold dF;simp only;split at hb
 .exact TG (.inl rfl) hb fun u hu=>Post.pure H hu
 .exact TG (.inr rfl) hb fun u hu=>Post.pure H hu
 .rename_i h1 h2;split at hb
  .rename_i hkj;have:=W9 (h:=h) hb fun u hu=>Post.pure H hu
   split
   .exact absurd rfl h1
   .exact absurd rfl h2
   .exact⟨jR hkj,this.2.2⟩
  .cases hb
theorem Az {m:Int}{t:T}(h:N7 k m r lo hi=some t):InK k lo/\InK k hi/\t= .res k m (r % m) lo hi:=by
 unfold N7 at h;split at h
 .rename_i a b h1 h2;cases h;exact⟨(fu h1).1,(fu h2).1,rfl⟩
 .cases h
theorem Gb {z:Int}(h1:InK k lo)(h2:InK k hi)(a:lo<=z)(b:z<=hi):InK k z:=⟨Int.le_trans h1.1 a,Int.le_trans b h2.2⟩
theorem WX {m z:Int}(hd:TZ op k m r lo hi b=some t)(h1:z % m=r)(h2:lo<=z)(h3:z<=hi)(hk:∀u,VR ι t u->K u h):op≠.shl/\op≠.shr/\fI op k z b h K:=by
 unfold TZ at hd;cases op<;>simp only at hd
 case add=>
  obtain⟨g1,g2,rfl⟩:=Az hd;refine⟨by simp,by simp,?_⟩;simp only[fI];exact⟨Gb g1 g2 (by omega) (by omega),hk _ (by simp only[VR];exact⟨_,rfl,by rw[<-h1,Int.emod_add_emod],by omega,by omega⟩)⟩
 case sub=>
  obtain⟨g1,g2,rfl⟩:=Az hd;refine⟨by simp,by simp,?_⟩;simp only[fI];exact⟨Gb g1 g2 (by omega) (by omega),hk _ (by simp only[VR];exact⟨_,rfl,by rw[<-h1,Int.emod_add_emod,Int.sub_eq_add_neg],by omega,by omega⟩)⟩
 case rem=>
  split at hd
  .rename_i hc;cases hd;simp only[Bool.and_eq_true,tF,oU,mU,decide_eq_true_eq]at hc;obtain⟨c1,c2,c3⟩:=hc;refine⟨by simp,by simp,?_⟩;simp only[fI];have hz:0<=z:=Int.le_trans c1 h2;have e:z.tmod b=r % b:=by
    rw[Int.tmod_eq_emod_of_nonneg hz,<-h1,Int.emod_emod_of_dvd z (Int.dvd_of_emod_eq_zero c3)]
   refine⟨by omega,?_⟩;rw[e];exact hk _ (by simp only[VR])
  .cases hd
 case lss=>
  split at hd
  .rename_i hc;rw[oU,decide_eq_true_eq]at hc;cases hd;exact⟨by simp,by simp,by simp only[fI];exact hk _ (by simp only[VR];rw[decide_eq_true (by omega)])⟩
  .split at hd
   .rename_i hc;rw[tF,decide_eq_true_eq]at hc;cases hd;exact⟨by simp,by simp,by simp only[fI];exact hk _ (by simp only[VR];rw[decide_eq_false (by omega)])⟩
   .cases hd
 case geq=>
  split at hd
  .rename_i hc;rw[oU,decide_eq_true_eq]at hc;cases hd;exact⟨by simp,by simp,by simp only[fI];exact hk _ (by simp only[VR];rw[decide_eq_false (by omega)])⟩
  .split at hd
   .rename_i hc;rw[tF,decide_eq_true_eq]at hc;cases hd;exact⟨by simp,by simp,by simp only[fI];exact hk _ (by simp only[VR];rw[decide_eq_true (by omega)])⟩
   .cases hd
 case gtr=>
  split at hd
  .rename_i hc;rw[oU,decide_eq_true_eq]at hc;cases hd;exact⟨by simp,by simp,by simp only[fI];exact hk _ (by simp only[VR];rw[decide_eq_true (by omega)])⟩
  .split at hd
   .rename_i hc;rw[tF,decide_eq_true_eq]at hc;cases hd;exact⟨by simp,by simp,by simp only[fI];exact hk _ (by simp only[VR];rw[decide_eq_false (by omega)])⟩
   .cases hd
 case leq=>
  split at hd
  .rename_i hc;rw[oU,decide_eq_true_eq]at hc;cases hd;exact⟨by simp,by simp,by simp only[fI];exact hk _ (by simp only[VR];rw[decide_eq_false (by omega)])⟩
  .split at hd
   .rename_i hc;rw[tF,decide_eq_true_eq]at hc;cases hd;exact⟨by simp,by simp,by simp only[fI];exact hk _ (by simp only[VR];rw[decide_eq_true (by omega)])⟩
   .cases hd
 all_goals cases hd
theorem Jl (re:RE ι m e er)(H:Sim P ι s h){yt:TypeId}{y:Operand}{j:IntKind}{q:Int}(hx:opd m e x=some (.res k q r lo hi))(hy:opd m e y=some (.int j b))(hb:JJ p op u (.res k q r lo hi) (.int j b)=some t):aI P (.binOp op u x y yt) ty er h (Post P ι s h t s):=by
 have hx:=ai re hx;have hy:=ai re hy;simp only[VR]at hx hy;obtain⟨z,hx,h1,h2,h3⟩:=hx;refine aM ?_;rw[rH,hx,hy];unfold JJ at hb;simp only at hb;split at hb
 .rename_i hkj;have:=WX (h:=h) hb h1 h2 h3 fun u hu=>Post.pure H hu
  unfold dF;simp only;split
  .exact absurd rfl this.1
  .exact absurd rfl this.2.1
  .exact⟨jR hkj,this.2.2⟩
 .cases hb
end
end ops6
end Go.Run
namespace Go.Run
open Go Go.Eng
section ops7
variable {P:Program}{p:Pr}{ι:Io}{s s':S}{h:Heap}{m:Fm}{e:E}{er:Env}{ty:TypeId}{t:T}{K:Value->Heap->Prop}
section
variable {i:Operand}{u:TypeId}{x:Operand}
theorem VH (ok:Ok P p)(re:RE ι m e er)(H:Sim P ι s h){f:Nat}(hd:vw p m e s u x f=some (t,s')):aI P (.field u x f) ty er h (Post P ι s h t s'):=by
 unfold vw at hd;split at hd
 .rename_i cs ti hx hti;split at hd
  .rename_i fs hdd;split at hd
   .rename_i off ft sz hf;split at hd
    .rename_i fi hfi;have tf:=ok.tf hti;have tg:=ok.tf hfi;obtain⟨gs,hu,rfl⟩:=tf.lV hdd
     replace hx:=ai re hx
     simp only[VR]at hx;obtain⟨vs,hx,hvl⟩:=hx;unfold mV at hf;rw[List.getElem?_map]at hf;obtain⟨fd,hfd,he⟩:=Option.map_eq_some_iff.1 hf;simp only[Prod.mk.injEq]at he;obtain⟨rfl,rfl,rfl⟩:=he;have hfd:gs[f]? =some fd:=by simpa using hfd
     have hot:mH P u f=some (fd.offset,fd.type):=by simp[mH,hu,hfd]
     refine aM ?_;rw[Dw,hx,hot];simp only[BX,nT,tg.agg];split at hd
     .rename_i hag;split at hd
      .rename_i hn;cases hd;rw[hag];refine⟨tg.isSome,Post.pure H ?_⟩;simp only[VR];exact⟨_,rfl,by simpa using(hvl.drop _).take _⟩
      .cases hd
     .rename_i hag;obtain⟨h1,rfl⟩:=fD hd;rw[hag];obtain⟨v,h2,h3⟩:=hvl.get h1;simp only[h2,qI];exact Post.pure H h3
    .cases hd
   .cases hd
  .cases hd
 .cases hd
theorem KD (re:RE ι m e er)(H:Sim P ι s h){a:List UInt8}{k:IntKind}{n:Int}{j:Nat}{b:UInt8}(hu:P.underlying u=some .string)(hx:opd m e x=some (.str a))(hi:opd m e i=some (.int k n))(hj:inR n a.length=some j)(hb:a[j]? =some b):
 aI P (.index u x i) ty er h (Post P ι s h (.int .u8 (.ofNat b.toNat)) s):=by
 replace hx:=ai re hx
 replace hi:=ai re hi
 simp only[VR]at hx hi;obtain⟨rfl,hjl⟩:=ug hj;refine aM ?_;rw[Dj,hx,hi,hu];simp only[Ct];refine⟨⟨by omega,by simp only[lI];omega⟩,?_⟩;have:(({data:={toList:=a}}:ByteArray).data.getD (Int.toNat ↑j) 0)=b:=by
  rw[Array.getD_eq_getD_getElem?];simp[hb]
 rw[this];exact Post.pure H (by simp only[VR];rfl)
theorem Ii (ok:Ok P p)(re:RE ι m e er)(H:Sim P ι s h){el:TypeId}{ei:TI}{cs:List T}{k:IntKind}{n:Int}{len j:Nat}(hu:P.underlying u=some (.array len el))(hei:p.ty el=some ei)(hx:opd m e x=some (.agg cs))(hi:opd m e i=some (.int k n))(hj:inR n len=some j)(hb:(match yG ei.d with
 |true=>(match Nat.ble (j*ei.size+ei.size) cs.length with|true=>some (.agg ((cs.drop (j*ei.size)).take ei.size))|false=>none)
 |false=>cs[j*ei.size]? :Option T)=some t):
 aI P (.index u x i) ty er h (Post P ι s h t s):=by
 replace hx:=ai re hx
 replace hi:=ai re hi
 simp only[VR]at hx hi;obtain⟨vs,hx,hvl⟩:=hx;obtain⟨rfl,hjl⟩:=ug hj;have te:=ok.tf hei;obtain⟨inf,hinf,hsz,_⟩:=te.info;have key:∃v,VR ι t v/\∀w:World,(part el vs (j*inf.size)).run P w= .ok v w:=by
  have:nT P el vs.toList (j*inf.size) h (fun v _=>VR ι t v):=by
   simp only[nT,te.agg];rw[hsz];split at hb
   .rename_i hag;split at hb
    .cases hb;rw[hag];exact⟨te.isSome,by simp only[VR];exact⟨_,rfl,by simpa[te.size]using(hvl.drop _).take _⟩⟩
    .cases hb
   .rename_i hag;rw[hag];obtain⟨v,h2,h3⟩:=hvl.get hb;simp only[h2,qI];exact h3
  obtain⟨v,h1,h2⟩:=Ar (P:=P) this;exact⟨v,h1,h2⟩
 obtain⟨v,h1,h2⟩:=key;refine aK rfl v (Post.pure H h1) fun w _=> ?_
 have hr:(0:Int)<=(j:Int)/\(j:Int)<len:=⟨by omega,by omega⟩;simp[execOp,Instr.index,hx,hi,asIntOf,run_underlying hu,hr,sizeOf,typeInfo,hinf,h2];intro hh;omega
theorem Wm (ok:Ok P p)(re:RE ι m e er)(H:Sim P ι s h)(hd:vG p m e s u x i=some (t,s')):aI P (.index u x i) ty er h (Post P ι s h t s'):=by
 unfold vG at hd;split at hd
 .rename_i xv k n hx hi;split at hd
  .rename_i ti hti;have tf:=ok.tf hti;split at hd
   .rename_i a hdd;split at hd
    .rename_i j hj;split at hd
     .rename_i b hb;cases hd;exact KD re H (tf.string hdd) hx hi hj hb
     .cases hd
    .cases hd
   .rename_i len el cs hdd;split at hd
    .rename_i ei j hei hj;have:s'=s/\(match yG ei.d with
      |true=>(match Nat.ble (j*ei.size+ei.size) cs.length with|true=>some (.agg ((cs.drop (j*ei.size)).take ei.size))|false=>none)
      |false=>cs[j*ei.size]? :Option T)=some t:=by
      split at hd
      .rename_i hag;split at hd
       .rename_i hn;cases hd;refine⟨rfl,?_⟩;simp only[hag,hn]
       .cases hd
      .rename_i hag;obtain⟨h1,rfl⟩:=fD hd;refine⟨rfl,?_⟩;simp only[hag,h1]
     obtain⟨rfl,h1⟩:=this;exact Ii ok re H (tf.array hdd) hei hx hi hj h1
    .cases hd
   .cases hd
  .cases hd
 .cases hd
end
end ops7
end Go.Run
namespace Go.Run
open Go Go.Eng
section ops8
variable {P:Program}{p:Pr}{ι:Io}{s s':S}{h:Heap}{m:Fm}{e:E}{er:Env}{ty:TypeId}{t:T}{K:Value->Heap->Prop}
theorem Fs (H:Sim P ι s h){o:VO}{ob:Obj}{t:T}{v:Value}(ho:∀ι',Sub ι ι'->OR P ι' ⟨h.size,0,#[],0,0⟩ o ob)(hv:∀ι':Io,ι' s.nx=some ⟨h.size,0,#[],0,0⟩->VR ι' t v):
 Post P ι s h t (fM s o) v (h.push ob):=by
 have hn:=H.pI (Nat.le_refl s.nx);have:=jQ H (o:=o) (ob:=ob) (x:=⟨h.size,0,#[],0,0⟩) rfl (ho _ (Io.gU hn));exact⟨_,this.2,this.1,hv _ Io.dm⟩
theorem Pk (H:Sim P ι s h){u:TypeId}{r:Option Operand}(hd:jP p m e s r=some (t,s')):aI P (.makeMap u r) ty er h (Post P ι s h t s'):=by
 unfold jP at hd;split at hd
 .cases hd;refine aM ?_;rw[p9];exact Fs H (fun ι' _=>⟨_,rfl,by simp[EL],by simp[jZ]⟩) fun ι' h'=>by simp only[VR];exact⟨_,h',rfl⟩
 .cases hd
theorem WI (ok:Ok P p)(re:RE ι m e er)(H:Sim P ι s h){u:TypeId}{x:Operand}(hd:vB p m e s u x=some (t,s')):aI P (.range u x) ty er h (Post P ι s h t s'):=by
 unfold vB at hd;split at hd
 .rename_i xv ti hx hti;have tf:=ok.tf hti
  replace hx:=ai re hx
  split at hd
  .rename_i a hdd;cases hd;simp only[VR]at hx;refine az rfl (.pointer (some ⟨h.size,0,none⟩)) (h.push (.stringIter ⟨⟨a⟩⟩ 0)) (Fs H (fun ι' _=>rfl) fun ι' h'=>by simp only[VR];exact⟨_,h',rfl⟩) fun w hw=> ?_
   subst hw;exact⟨{w with heap:=w.heap.push (.stringIter ⟨⟨a⟩⟩ 0)},by simp[execOp,Instr.range,hx,run_underlying (tf.string hdd)],rfl,rfl,rfl,rfl⟩
  .rename_i k v b hdd;split at hd
   .rename_i es c hb;cases hd;simp only[VR]at hx;obtain⟨y,hy,hx⟩:=hx;obtain⟨y',ob,h1,h2,h3⟩:=H.obj b _ hb;rw[hy]at h1;cases h1;obtain⟨ents,rfl,h4,h5⟩:=h3;refine az rfl (.pointer (some ⟨h.size,0,none⟩)) (h.push (.mapIter (some y.r) c #[] c)) (Fs H (fun ι' hs=>⟨y,hs _ _ hy,rfl⟩) fun ι' h'=>by simp only[VR];exact⟨_,h',rfl⟩) fun w hw=> ?_
    subst hw;exact⟨{w with heap:=w.heap.push (.mapIter (some y.r) c #[] c)},by simp[execOp,Instr.range,hx,run_underlying (tf.map hdd),getObj,Sem.run,h2,Result.andThen],rfl,rfl,rfl,rfl⟩
   .cases hd
  .cases hd
 .cases hd
end ops8
end Go.Run
namespace Go.Run
open Go Go.Eng
section ops9
variable {P:Program}{p:Pr}{ι:Io}{s s':S}{h:Heap}{m:Fm}{e:E}{er:Env}{ty:TypeId}{t:T}{K:Value->Heap->Prop}
theorem Fw {h:Heap}{b:Nat}(hb:b<h.size)(o:Obj):Upd h (h.setIfInBounds b o) b/\(h.setIfInBounds b o)[b]? =some o:=
 ⟨⟨by simp,fun b' hb'=>by rw[Array.getElem?_setIfInBounds_ne (Ne.symm hb')]⟩,by simp[hb]⟩
theorem gW (H:Sim P ι s h){b:Nat}{o o0:VO}{ob:Obj}{x:Inf}(h0:s.at b=some o0)(hx:ι b=some x)(ho:OR P ι x o ob){t:T}{v:Value}(hv:VR ι t v)(ha:o.am=true->o0.am=true:=by simp[VO.am]):
 Post P ι s h t (gI s b o) v (h.setIfInBounds x.r ob):=by
 obtain⟨y,ob0,h1,h2,_⟩:=H.obj b _ h0;rw[hx]at h1;cases h1;obtain⟨u,hg⟩:=Fw (bA h2) ob;obtain⟨q1,q2⟩:=kg H h0 hx ho u hg (low:=min s.low b) (Nat.min_le_left _ _) (.inl (Nat.min_le_right _ _)) ha;rw[<-kR]at q1 q2;exact⟨ι,q2,q1,hv⟩
theorem NC (re:RE ι m e er)(H:Sim P ι s h){x:Operand}{r:Nat}{a:List UInt8}{pos:Nat}(hx:opd m e x=some (.ptr r 0))(hr:s.at r=some (.pO a pos))(hd:Dl s (.ptr r 0) true=some (t,s')):
 aI P (.next x true) ty er h (Post P ι s h t s'):=by
 replace hx:=ai re hx
 simp only[VR]at hx;obtain⟨y,hy,hx⟩:=hx;obtain⟨y',ob,h1,h2,h3⟩:=H.obj r _ hr;rw[hy]at h1;cases h1;have h3:ob= .stringIter ⟨⟨a⟩⟩ pos:=h3;subst h3;simp only[Dl,hr]at hd;split at hd
 .rename_i hb;have hb:=bX.1 hb;split at hd
  .rename_i c w hc;cases hd;unfold TV at hc;split at hc
   .rename_i b hbb;split at hc
    .rename_i hlt;cases hc;have hlt:=bX.1 hlt;have hsz:pos<(⟨⟨a⟩⟩:ByteArray).size:=by simpa[lI]using hb
     have hget:((⟨⟨a⟩⟩:ByteArray)[pos]'hsz)=b:=by
      have:=(List.getElem?_eq_some_iff.1 hbb).2;exact this
     have hdec:=decode_ascii ⟨⟨a⟩⟩ pos hsz (by rw[hget];exact hlt);rw[hget]at hdec;refine az rfl (.tuple #[.bool true,goInt pos,.int .i32 b.toNat]) (h.setIfInBounds y.r (.stringIter ⟨⟨a⟩⟩ (pos+1))) (gW H hr hy (o:= .pO a (pos+1)) (ob:= .stringIter ⟨⟨a⟩⟩ (pos+1)) rfl ?_) fun w' hw=> ?_
     .simp only[VR];exact⟨_,rfl,by simp[VL,VR,goInt]⟩
     .subst hw;refine⟨{w' with heap:=w'.heap.setIfInBounds y.r (.stringIter ⟨⟨a⟩⟩ (pos+1))},?_,rfl,rfl,rfl,rfl⟩;simp[execOp,Instr.next,hx,getObj,setObj,Sem.run,h2,Result.andThen,hsz,hdec]
    .cases hc
   .cases hc
  .cases hd
 .rename_i hb;cases hd;have hb:¬pos<a.length:=fun hh=>by rw[bX.2 hh]at hb;cases hb
  refine az rfl (.tuple #[.bool false]) h (Post.pure H ?_) fun w' hw=> ?_
  .simp only[VR];exact⟨_,rfl,by simp[VL,VR]⟩
  .subst hw;refine⟨w',?_,rfl,Rest.refl _⟩;simp[execOp,Instr.next,hx,getObj,Sem.run,h2,Result.andThen,lI,hb]
end ops9
end Go.Run
namespace Go.Run
open Go Go.Eng
section ops10
variable {P:Program}{p:Pr}{ι:Io}{s s':S}{h:Heap}{m:Fm}{e:E}{er:Env}{ty:TypeId}{t:T}{K:Value->Heap->Prop}
section
variable {ats:Array TypeId}{v:Value}{vs:List Value}{x y:T}
theorem ik (ok:Ok P p){u:Option TypeId}{d:D}(hd:descOf p u=some d):∃v ti,u=some v/\TF P v ti/\ti.d=d:=by
 unfold descOf at hd;split at hd
 .split at hd
  .rename_i ti hti;cases hd;exact⟨_,ti,rfl,ok.tf hti,rfl⟩
  .cases hd
 .cases hd
theorem yK (hv:VR ι x v){n:Nat}(hn:sliceLen x=some n):∃a c,v= .slice a n c:=by
 unfold sliceLen at hn;split at hn<;>cases hn<;>simp only[VR]at hv
 .subst hv;exact⟨_,_,rfl⟩
 .obtain⟨a,c,rfl⟩:=hv;exact⟨_,_,rfl⟩
 .obtain⟨y,_,rfl⟩:=hv;exact⟨_,_,rfl⟩
 .obtain⟨y,_,rfl,_⟩:=hv;exact⟨_,_,rfl⟩
 .obtain⟨y,c,_,rfl,_⟩:=hv;exact⟨_,_,rfl⟩
theorem VL.one (h:VL ι [x] vs):∃v,vs=[v]/\VR ι x v:=by
 simp only[VL]at h;obtain⟨v,r,rfl,h1,rfl⟩:=h;exact⟨v,rfl,h1⟩
theorem VL.two (h:VL ι [x,y] vs):∃v w,vs=[v,w]/\VR ι x v/\VR ι y w:=by
 simp only[VL]at h;obtain⟨v,r,rfl,h1,w,r',rfl,h2,rfl⟩:=h;exact⟨v,w,rfl,h1,h2⟩
noncomputable def BI (P:Program)(b:Builtin)(ats:Array TypeId)(ι:Io)(s:S)(h:Heap)(t:T)(s':S)(vs:List Value):Prop:=
 ∀(er:Env) (xs:Array Operand) (ty:TypeId),(xs.map (ev er)).toList=vs->aI P (.call ⟨.builtin b,xs,ats⟩) ty er h (Post P ι s h t s')
theorem Ob {b:Builtin}(H:∀F:Prop,lZ b vs ((ats[0]?).bind P.underlying) h (Post P ι s h t s') F):BI P b ats ι s h t s' vs:=by
 intro er xs ty hx;refine aM ?_;rw[yz,hx];exact H _
theorem zBB (ok:Ok P p)(H:Sim P ι s h)(hv:VR ι x v)(hd:ZW p s ats.toList x=some (t,s')):BI P .len ats ι s h t s' [v]:=by
 unfold ZW at hd;split at hd
 .rename_i hdd;split at hd
  .cases hd;obtain⟨u,ti,hu,tf,hdt⟩:=ik ok hdd;simp only[VR]at hv;subst hv;have hu:ats[0]? =some u:=by simpa using hu
   refine Ob fun F=> ?_
   rw[hu,Option.bind_some,tf.string hdt];simp only[lZ];exact Post.pure H (by simp only[VR,lI];rfl)
  .cases hd
 .rename_i el hdd;split at hd
  .rename_i n hn;cases hd;obtain⟨u,ti,hu,tf,hdt⟩:=ik ok hdd;obtain⟨a,c,rfl⟩:=yK hv hn;have hu:ats[0]? =some u:=by simpa using hu
   refine Ob fun F=> ?_
   rw[hu,Option.bind_some,tf.slice hdt];simp only[lZ];exact Post.pure H (by simp only[VR];rfl)
  .cases hd
 .rename_i kt vt hdd;split at hd
  .rename_i n hn;cases hd;obtain⟨u,ti,hu,tf,hdt⟩:=ik ok hdd;have hu:ats[0]? =some u:=by simpa using hu
   have hm:=tf.map hdt;unfold Te at hn;intro er xs ty hx;have hargs:xs.map (ev er)= #[v]:=by apply Array.toList_inj.1;simpa using hx
   split at hn
   .cases hn;simp only[VR]at hv;subst hv;refine aK rfl (.int .i64 0) (Post.pure H (by simp only[VR];rfl)) fun w hw=> ?_
    simp[execOp,resolve,invoke,builtin,Builtin.len_,hargs,hu,run_underlying hm,goInt]
   .rename_i b;simp only[VR]at hv;obtain⟨y,hy,rfl⟩:=hv;split at hn
    .rename_i es c hb;cases hn;obtain⟨y',ob,h1,h2,h3⟩:=H.obj b _ hb;rw[hy]at h1;cases h1;obtain⟨ents,rfl,h4,h5⟩:=h3;have hl:ents.size=es.length:=by
      rw[<-Array.length_toList];have:∀{xs:List (T×T×Nat)} {l:List MapEntry},EL ι xs l->l.length=xs.length:=by
       intro xs;induction xs with
       |nil=>intro l h;have h:l=[]:=h;simp[h]
       |cons x xs ih=>intro l h;obtain⟨e,r,rfl,_,h3⟩:=h;simp[ih h3]
      exact this h4
     refine aK rfl (.int .i64 es.length) (Post.pure H (by simp only[VR];rfl)) fun w hw=> ?_
     subst hw;simp[execOp,resolve,invoke,builtin,Builtin.len_,hargs,hu,run_underlying hm,goInt,getObj,Sem.run,h2,Result.andThen,hl]
    .cases hn
   .cases hn
  .cases hd
 .cases hd
theorem zBO (H:Sim P ι s h){w:Value}(hv:VR ι x v)(hw:VR ι y w)(hd:Yp s x y=some (t,s')):BI P .min ats ι s h t s' [v,w]:=by
 unfold Yp at hd;split at hd
 .rename_i k a j b;split at hd
  .rename_i hk;simp only[Option.some.injEq,Prod.mk.injEq]at hd;obtain⟨rfl,rfl⟩:=hd;simp only[VR]at hv hw;subst hv hw;refine Ob fun F=> ?_
   simp only[lZ];refine Post.pure H ?_;simp only[VR,oU];congr 1;by_cases hba:b<a<;>simp[hba]
  .cases hd
 .cases hd
theorem zAT (H:Sim P ι s h){w:Value}(hv:VR ι x v)(hw:VR ι y w)(hd:Z8 s x y=some (t,s')):BI P .max ats ι s h t s' [v,w]:=by
 unfold Z8 at hd;split at hd
 .rename_i k a j b;split at hd
  .rename_i hk;simp only[Option.some.injEq,Prod.mk.injEq]at hd;obtain⟨rfl,rfl⟩:=hd;simp only[VR]at hv hw;subst hv hw;refine Ob fun F=> ?_
   simp only[lZ];refine Post.pure H ?_;simp only[VR,oU];congr 1;by_cases hba:a<b<;>simp[hba]
  .cases hd
 .cases hd
end
end ops10
end Go.Run
namespace Go.Run
open Go Go.Eng
section ops11
variable {P:Program}{p:Pr}{ι:Io}{s s':S}{h:Heap}{m:Fm}{e:E}{er:Env}{ty:TypeId}{t:T}{K:Value->Heap->Prop}
theorem Ih (re:RE ι m e er)(H:Sim P ι s h){op:BinOp}{u yt:TypeId}{x y:Operand}{a b:List UInt8}(hx:opd m e x=some (.str a))(hy:opd m e y=some (.str b))
 (hb:JJ p op u (.str a) (.str b)=some t):aI P (.binOp op u x y yt) ty er h (Post P ι s h t s):=by
 replace hx:=ai re hx
 replace hy:=ai re hy
 simp only[VR]at hx hy;refine aM ?_;rw[rH,hx,hy];unfold JJ at hb;simp only at hb;unfold dF;simp only;exact VU hb fun u hu=>Post.pure H hu
end ops11
end Go.Run
namespace Go.Run
open Go Go.Eng
section ops12
variable {P:Program}{p:Pr}{ι:Io}{s s':S}{h:Heap}{m:Fm}{e:E}{er:Env}{ty:TypeId}{t:T}{K:Value->Heap->Prop}
section
variable {el:TypeId}{op:BinOp}{u:TypeId}{x y:Operand}{yt:TypeId}
theorem jS (u:TypeId)(x y:Value):Op.equal u x y=Op.equalIn (9999+1) u x y:=rfl
theorem PQ (hu:P.underlying u=some .bool)(a b:Bool)(w:World):(Op.equal u (.bool a) (.bool b)).run P w= .ok (a==b) w:=by
 rw[jS];generalize 9999=d;simp[Op.equalIn,run_underlying hu]
theorem Tv (hu:P.underlying u=some (.slice el))(a:Option Addr)(n c:Nat)(w:World):(Op.equal u (.slice a n c) (.slice none 0 0)).run P w= .ok a.isNone w:=by
 rw[jS];generalize 9999=d;cases a<;>simp[Op.equalIn,run_underlying hu]
theorem Z6 {k v:TypeId}(hu:P.underlying u=some (.map k v))(a:Option Nat)(w:World):(Op.equal u (.map a) (.map none)).run P w= .ok a.isNone w:=by
 rw[jS];generalize 9999=d;cases a<;>simp[Op.equalIn,run_underlying hu]
theorem Xr (hu:P.underlying u=some (.pointer el))(a:Option Addr)(w:World):(Op.equal u (.pointer a) (.pointer none)).run P w= .ok a.isNone w:=by
 rw[jS];generalize 9999=d;cases a<;>simp[Op.equalIn,run_underlying hu]
theorem Af {a b:Value}{r:Bool}(hx:ev er x=a)(hy:ev er y=b)(H:Sim P ι s h)(ho:op= .eql\/op= .neq)(hg:∀w,(eqGuard op u x y a b).run P w= .ok () w)(hb:∀w,(binOp op u a b).run P w= .ok (.bool (if op= .eql then r else !r)) w):
 aI P (.binOp op u x y yt) ty er h (Post P ι s h (.bool (if op= .eql then r else !r)) s):=by
 refine aK rfl (.bool (if op= .eql then r else !r)) (Post.pure H (by simp only[VR])) fun w _=> ?_
 simp[execOp,hx,hy,hg,hb]
theorem Qw {a b:Bool}(hu:P.underlying u=some .bool)(hx:ev er x= .bool a)(hy:ev er y= .bool b)(H:Sim P ι s h)(ho:op= .eql\/op= .neq):
 aI P (.binOp op u x y yt) ty er h (Post P ι s h (.bool (if op= .eql then(a==b)else !(a==b))) s):=by
 refine Af hx hy H ho ?_ ?_
 .intro w;rcases ho with rfl|rfl<;>simp[eqGuard]
 .intro w;rcases ho with rfl|rfl<;>simp[binOp,PQ hu]
theorem Ms {a:Option Addr}{n c:Nat}(hu:P.underlying u=some (.slice el))(hx:ev er x= .slice a n c)(hy:ev er y= .slice none 0 0)(H:Sim P ι s h)(ho:op= .eql\/op= .neq):
 aI P (.binOp op u x y yt) ty er h (Post P ι s h (.bool (if op= .eql then a.isNone else !a.isNone)) s):=by
 refine Af hx hy H ho ?_ ?_
 .intro w;rcases ho with rfl|rfl<;>simp[eqGuard]
 .intro w;rcases ho with rfl|rfl<;>simp[binOp,Tv hu]
theorem Gy {k v:TypeId}{a:Option Nat}(hu:P.underlying u=some (.map k v))(hx:ev er x= .map a)(hy:ev er y= .map none)(H:Sim P ι s h)(ho:op= .eql\/op= .neq):
 aI P (.binOp op u x y yt) ty er h (Post P ι s h (.bool (if op= .eql then a.isNone else !a.isNone)) s):=by
 refine Af hx hy H ho ?_ ?_
 .intro w;rcases ho with rfl|rfl<;>simp[eqGuard]
 .intro w;rcases ho with rfl|rfl<;>simp[binOp,Z6 hu]
theorem JI {a:Option Addr}(hu:P.underlying u=some (.pointer el))(hx:ev er x= .pointer a)(hy:ev er y= .pointer none)(H:Sim P ι s h)(ho:op= .eql\/op= .neq):
 aI P (.binOp op u x y yt) ty er h (Post P ι s h (.bool (if op= .eql then a.isNone else !a.isNone)) s):=by
 refine Af hx hy H ho ?_ ?_
 .intro w;rcases ho with rfl|rfl<;>simp[eqGuard]
 .intro w;rcases ho with rfl|rfl<;>simp[binOp,Xr hu]
end
end ops12
end Go.Run
namespace Go.Run
open Go Go.Eng
section ops13
variable {P:Program}{p:Pr}{ι:Io}{s s':S}{h:Heap}{m:Fm}{e:E}{er:Env}{ty:TypeId}{t:T}{K:Value->Heap->Prop}
section
variable {u:TypeId}{xs:Array (Nat×Operand)}
noncomputable def PL (ι:Io):List (Nat×T)->List (Nat×Value)->Prop
 |[],l=>l=[]
 |x::xs,l=>∃v r,l=(x.1,v)::r/\VR ι x.2 v/\PL ι xs r
theorem uU {pl:Nat->Option (Nat×Nat)}:∀{parts:List (Nat×T)} {ps:List (Nat×Value)} {cs:List T} {us:List Value} {r:List T},PL ι parts ps->VL ι cs us->vH pl cs parts=some r->
 ∃ws,jK pl us ps=some ws/\VL ι r ws
 |[],ps,cs,us,r,hp,hv,hf=>by
  simp only[PL]at hp;subst hp;simp only[vH,Option.some.injEq]at hf;subst hf;exact⟨us,rfl,hv⟩
 |(i,v)::parts,ps,cs,us,r,hp,hv,hf=>by
  simp only[PL]at hp;obtain⟨w,rest,rfl,h1,h2⟩:=hp;simp only[vH]at hf;split at hf
  .rename_i off size hpl;split at hf
   .rename_i hc;simp only[Bool.and_eq_true]at hc;obtain⟨⟨c1,c2⟩,c3⟩:=hc;have c2:=Nat.eq_of_beq_eq_true c2;have c3:=aH.1 c3;have k1:=dw h1 c1;have hl:=k1.length;have hs:w.cells.size=size:=by rw[<-c2,<-hl];simp
    obtain⟨ws,q1,q2⟩:=uU h2 (hv.spl k1 (by rw[c2];exact c3)) hf;refine⟨ws,?_,q2⟩;simp only[jK,hpl];rw[if_pos ⟨hs,by rw[hv.length];exact c3⟩];exact q1
   .cases hf
  .cases hf
theorem qj (re:RE ι m e er):∀{xs:List (Nat×Operand)} {ts:List (Nat×T)},oZ m e xs=some ts->PL ι ts (xs.map fun(i,x)=>(i,ev er x))
 |[],ts,hx=>by simp only[oZ,Option.some.injEq]at hx;subst hx;simp[PL]
 |(i,x)::xs,ts,hx=>by
  simp only[oZ]at hx;split at hx
  .rename_i a r h1 h2;cases hx;simp only[List.map_cons,PL];exact⟨_,_,rfl,ai re h1,qj re h2⟩
  .cases hx
theorem Bt (ok:Ok P p)(H:Sim P ι s h){ti:TI}{fs:List (Nat×TypeId×Nat)}(tf:TF P u ti)(hdd:ti.d= .lV fs)(hz:jE ti.zero=true)(hok:jh P u=true){parts:List (Nat×T)}{r:List T}(hp:PL ι parts (xs.toList.map fun(i,x)=>(i,ev er x)))(hf:vH (fun i=>(mV fs i).map fun(o,_,z)=>(o,z)) (dV ti.zero) parts=some r):
 aI P (.build u xs) ty er h (Post P ι s h (.agg r) s):=by
 obtain⟨z,h1,h2⟩:=tf.zero;obtain⟨gs,hu,rfl⟩:=tf.lV hdd;have hpl:(fun i=>(mV (gs.toList.map fun f=>(f.offset,f.type,szT P f.type)) i).map fun(o,_,z)=>(o,z))=mF P u:=by
  funext i;simp only[mV,List.getElem?_map,mF,hu];cases hg:gs[i]? with
  |none=>simp[hg]
  |some fd=>
   have hs:(P.info? fd.type).isSome=true:=by
    unfold jh at hok;rw[hu]at hok;exact Array.all_eq_true_iff_forall_mem.1 hok fd (Array.mem_of_getElem? hg)
   simp[hg,hs]
 rw[hpl]at hf;obtain⟨ws,q1,q2⟩:=uU hp (dw (h2 ι) hz) hf;refine aM ?_;rw[EK,hok,h1,Ee];have:(xs.map fun(i,x)=>(i,ev er x)).toList=xs.toList.map fun(i,x)=>(i,ev er x):=by simp
 rw[this,q1,Ai];exact Post.pure H (by simp only[VR];exact⟨_,rfl,by simpa using q2⟩)
theorem Cz (ok:Ok P p)(H:Sim P ι s h){el:TypeId}{n:Nat}{ti ei:TI}(tf:TF P u ti)(te:TF P el ei)(hdd:ti.d= .array n el)(hz:jE ti.zero=true){parts:List (Nat×T)}{r:List T}(hp:PL ι parts (xs.toList.map fun(i,x)=>(i,ev er x)))(hf:vH (fun i=>some (i*ei.size,ei.size)) (dV ti.zero) parts=some r):
 aI P (.build u xs) ty er h (Post P ι s h (.agg r) s):=by
 obtain⟨z,h1,h2⟩:=tf.zero;obtain⟨inf,hi,hs,_⟩:=te.info;obtain⟨ws,q1,q2⟩:=uU hp (dw (h2 ι) hz) hf;have q3:=vL _ _ _ q1;refine aK rfl (.agg ws.toArray) (Post.pure H (by simp only[VR];exact⟨_,rfl,by simpa using q2⟩)) fun w _=> ?_
 have hz':(zeroValue u).run P w= .ok z w:=by
  unfold dJ at h1;cases hi:P.info? u with
  |none=>simp[hi]at h1
  |some i=>simp only[hi,Option.bind_some]at h1;simp[zeroValue,typeInfo,hi,h1]
 simp only[execOp,Instr.build,Sem.run_bind,hz',Result.andThen_ok,run_underlying (tf.array hdd)];simp[sizeOf,typeInfo,hi,hs,q3]
theorem V5 (ok:Ok P p)(re:RE ι m e er)(H:Sim P ι s h)(hd:vX p m e s u xs=some (t,s')):aI P (.build u xs) ty er h (Post P ι s h t s'):=by
 unfold vX at hd;split at hd
 .rename_i ps hps;obtain⟨h1,rfl⟩:=fD hd;have hp:=qj re hps;unfold Rz at h1;split at h1
  .rename_i ti hti;have tf:=ok.tf hti;split at h1
   .cases h1
   .rename_i hz;split at h1
    .rename_i fs hdd;obtain⟨r,hr,rfl⟩:=Option.map_eq_some_iff.1 h1;obtain⟨gs,hu,_⟩:=tf.lV hdd;exact Bt ok H tf hdd hz (by have:=tf.okf _ hu;exact this) hp hr
    .rename_i n el hdd;split at h1
     .rename_i ei hei;obtain⟨r,hr,rfl⟩:=Option.map_eq_some_iff.1 h1;exact Cz ok H tf (ok.tf hei) hdd hz hp hr
     .cases h1
    .cases h1
  .cases h1
 .cases hd
end
end ops13
end Go.Run
namespace Go.Run
open Go Go.Eng
section ops14
variable {P:Program}{p:Pr}{ι:Io}{s s':S}{h:Heap}{m:Fm}{e:E}{er:Env}{ty:TypeId}{t:T}{K:Value->Heap->Prop}
section
variable {u:TypeId}
theorem uO {l:List T}{us:List Value}(H:VL ι l us):∀n,VL ι (rep n l) (List.replicate n us).flatten
 |0=>by simp[rep,VL]
 |n+1=>by
  rw[rep,List.replicate_succ,List.flatten_cons];exact H.append (uO H n)
theorem GU (ok:Ok P p)(re:RE ι m e er)(H:Sim P ι s h){n:Nat}{xs:Array (Nat×Operand)}(hd:fO p m e s u n xs=some (t,s')):aI P (.buildSlice u n xs) ty er h (Post P ι s h t s'):=by
 unfold fO at hd;split at hd
 .rename_i ps hps;have hp:=qj re hps;unfold Eu at hd;split at hd
  .rename_i ti hti;have tf:=ok.tf hti;split at hd
   .rename_i el hdd;split at hd
    .rename_i ei hei;have te:=ok.tf hei;split at hd
     .rename_i hc;simp only[Bool.and_eq_true]at hc;obtain⟨⟨⟨c0,c1⟩,c2⟩,c3⟩:=hc;have c1:=Nat.eq_of_beq_eq_true c1;have c2:=aH.1 c2;have c3:=aH.1 c3;split at hd
      .rename_i cs hcs;cases hd;obtain⟨z,z1,z2⟩:=te.zero;have k1:=dw (z2 ι) c0;obtain⟨ws,q1,q2⟩:=uU hp (uO k1 n) hcs;refine aM ?_;rw[lH,tf.slice hdd];have:(xs.map fun(i,x)=>(i,ev er x)).toList=xs.toList.map fun(i,x)=>(i,ev er x):=by simp
       rw[this];simp only[Ey,z1,te.size];refine⟨by rw[<-c1,<-k1.length];simp,by omega,c3,?_⟩;rw[fJ];refine⟨ws,q1,?_⟩;have:=AC H (ct:=el) q2;obtain⟨ι',a1,a2,a3⟩:=this;simp only[VR]at a3;obtain⟨y,b1,b2⟩:=a3;refine⟨ι',a1,a2,?_⟩;simp only[VR];simp only[Value.pointer.injEq,Option.some.injEq,Addr.mk.injEq]at b2;exact⟨y,b1,by rw[b2.1]⟩
      .cases hd
     .cases hd
    .cases hd
   .cases hd
  .cases hd
 .cases hd
theorem Ra (H:Sim P ι s h){cs:List T}{us:List Value}{ct:TypeId}{n c:Nat}(hv:VL ι cs us):
 Post P ι s h (.slice s.nx 0 n c) (fM s (.row cs ct false)) (.slice (some ⟨h.size,0,none⟩) n c) (h.push (.cells us.toArray ct)):=by
 obtain⟨ι',a1,a2,a3⟩:=AC H (ct:=ct) hv;simp only[VR]at a3;obtain⟨y,b1,b2⟩:=a3;refine⟨ι',a1,a2,?_⟩;simp only[VR];simp only[Value.pointer.injEq,Option.some.injEq,Addr.mk.injEq]at b2;exact⟨y,b1,by rw[b2.1]⟩
theorem Gu {ti:TI}(H:TF P u ti):iA P u=ti.bytes:=by
 obtain⟨i,h1,_,h3⟩:=H.info;simp[iA,h1,h3]
theorem Ja (ok:Ok P p)(re:RE ι m e er)(H:Sim P ι s h){l c:Operand}(hd:gH p m e s u l c=some (t,s')):aI P (.makeSlice u l c) ty er h (Post P ι s h t s'):=by
 unfold gH at hd;split at hd
 .rename_i q n q' k ti hl hc hti;have tf:=ok.tf hti
  replace hl:=ai re hl
  replace hc:=ai re hc
  simp only[VR]at hl hc;split at hd
  .rename_i el n k hdd;simp only[Int.ofNat_eq_natCast]at hl hc;unfold BD at hd;split at hd
   .rename_i ei hei;have te:=ok.tf hei;split at hd
    .rename_i hcc;cases hd;simp only[Bool.and_eq_true]at hcc;obtain⟨⟨⟨⟨⟨c0,c1⟩,c2⟩,c3⟩,c4⟩,c5⟩:=hcc;have c1:=Nat.eq_of_beq_eq_true c1;have c2:=aH.1 c2;have c3:=aH.1 c3;have c4:=aH.1 c4;have c5:=aH.1 c5;obtain⟨z,z1,z2⟩:=te.zero;have k1:=dw (z2 ι) c0;have hk:k<=1000000:=Nat.le_trans (Nat.le_mul_of_pos_right k c2) c4;refine aM ?_;rw[nA,hl,hc,tf.slice hdd];simp only[FV,z1,te.size,Gu te];refine⟨by rw[<-c1,<-k1.length];simp,by omega,by omega,by omega,?_,by omega,?_⟩
     .have:(k:Int)*(ei.bytes:Int)=((k*ei.bytes:Nat):Int):=by simp
      rw[this];omega
     .exact Ra H (uO k1 k)
    .cases hd
   .cases hd
  .cases hd
 .cases hd
end
end ops14
end Go.Run
namespace Go.Run
open Go Go.Eng
section ops15
variable {P:Program}{p:Pr}{ι:Io}{s s':S}{h:Heap}{m:Fm}{e:E}{er:Env}{ty:TypeId}{t:T}{K:Value->Heap->Prop}
section
variable {b cap:Nat}{ei:TI}{el:TypeId}{hi:Option Operand}{hv:Option T}{k l:Nat}{lo:Option Operand}{lv mv:Option T}{mx:Option Operand}{r:Nat}{u:TypeId}{x:Operand}{y:Inf}
theorem JS {n:Int}{len j:Nat}(h:leR n len=some j):n=j/\j<=len:=by
 unfold leR at h;split at h
 .split at h
  .rename_i hb;cases h;exact⟨rfl,aH.1 hb⟩
  .cases h
 .cases h
noncomputable def OV (ι:Io):Option T->Option Value->Prop
 |none,v=>v=none
 |some t,v=>∃u,v=some u/\VR ι t u
theorem Ew (re:RE ι m e er){x:Option Operand}{o:Option T}(hx:wL m e x=some o):OV ι o (x.map (ev er)):=by
 cases x with
 |none=>simp only[wL,Option.some.injEq]at hx;subst hx;simp[OV]
 |some x=>
  simp only[wL]at hx;split at hx
  .rename_i a ha;cases hx;exact⟨_,rfl,ai re ha⟩
  .cases hx
theorem lU {v:Option T}{vv:Option Value}{d hi:Nat}(hv:OV ι v vv)(hb:Mt v d hi=some r):Eng.bnd vv d=some (r:Int)/\r<=hi:=by
 unfold Mt at hb;split at hb
 .simp only[OV]at hv;subst hv;obtain⟨h1,h2⟩:=JS hb;simp only[Int.ofNat_eq_natCast]at h1;exact⟨by simp only[Eng.bnd];rw[h1],h2⟩
 .obtain⟨u,rfl,h1⟩:=hv;simp only[VR]at h1;obtain⟨h2,h3⟩:=JS hb;subst h1 h2;exact⟨rfl,h3⟩
 .cases hb
theorem qX {lo hi:Option T}{lv hv:Option Value}{len top:Nat}(hl:OV ι lo lv)(hh:OV ι hi hv)(hb:nN lo hi none len top=some (l,r,k)):
 Eng.bnd lv 0=some (l:Int)/\Eng.bnd hv len=some (r:Int)/\k=top/\l<=r/\r<=top:=by
 unfold nN at hb;simp only at hb;split at hb
 .rename_i r' h1;split at hb
  .rename_i l' h2;cases hb;obtain⟨a1,a2⟩:=lU hh h1;obtain⟨b1,b2⟩:=lU hl h2;exact⟨b1,a1,rfl,b2,a2⟩
  .cases hb
 .cases hb
theorem yN {lo hi mx:Option T}{lv hv mv:Option Value}{len top:Nat}(hl:OV ι lo lv)(hh:OV ι hi hv)(hm:OV ι mx mv)(hmx:mx≠none)(hb:nN lo hi mx len top=some (l,r,k)):
 ∃u w,hv=some u/\mv=some w/\Eng.bnd lv 0=some (l:Int)/\Eng.bnd (some u) len=some (r:Int)/\Eng.bnd (some w) cap=some (k:Int)/\l<=r/\r<=k/\k<=top:=by
 unfold nN at hb;split at hb
 .exact absurd rfl hmx
 .rename_i mm;split at hb
  .cases hb
  .rename_i hi';obtain⟨u,rfl,hu⟩:=hh;obtain⟨w,rfl,hw⟩:=hm;split at hb
   .rename_i k' h0;split at hb
    .rename_i r' h1;split at hb
     .rename_i l' h2;cases hb;obtain⟨c1,c2⟩:=lU (v:=some mm) (vv:=some w) ⟨w,rfl,hw⟩ h0;obtain⟨a1,a2⟩:=lU (v:=some hi') (vv:=some u) ⟨u,rfl,hu⟩ h1;obtain⟨b1,b2⟩:=lU hl h2;refine⟨u,w,rfl,rfl,b1,?_,?_,b2,a2,c2⟩
      .revert a1;unfold Eng.bnd;cases u<;>simp
      .revert c1;unfold Eng.bnd;cases w<;>simp
     .cases hb
    .cases hb
   .cases hb
theorem Yw {a:Option Addr}{len:Nat}(hu:P.underlying u=some (.slice el))(te:TF P el ei)(hx:ev er x= .slice a len cap)(hl:Eng.bnd (lo.map (ev er)) 0=some (l:Int))(hr:Eng.bnd (hi.map (ev er)) len=some (r:Int))(h1:l<=r)(h2:r<=cap)(hk:K (.slice (if cap=l then a else lg a (l*ei.size)) (r-l) (cap-l)) h):aI P (.slice u x lo hi none) ty er h K:=by
 refine aM ?_;rw[ng,hu,hx,Option.map_none,HZ,hl,hr,rD te.isSome,te.size];refine⟨by omega,by omega,by omega,by omega,?_⟩;have e1:((r:Int)-(l:Int)).toNat=r-l:=by omega
 have e2:((cap:Int)-(l:Int)).toNat=cap-l:=by omega
 have e3:((cap:Int)=(l:Int))=(cap=l):=propext Int.ofNat_inj;simp only[e1,e2,e3,Int.toNat_natCast];exact hk
theorem TU {mx:Operand}{hi:Operand}{a:Option Addr}{len:Nat}(hu:P.underlying u=some (.slice el))(te:TF P el ei)(hx:ev er x= .slice a len cap)(hl:Eng.bnd (lo.map (ev er)) 0=some (l:Int))(hr:Eng.bnd (some (ev er hi)) len=some (r:Int))(hm:Eng.bnd (some (ev er mx)) cap=some (k:Int))(h1:l<=r)(h2:r<=k)(h3:k<=cap)(hk:K (.slice (if k=l then a else lg a (l*ei.size)) (r-l) (k-l)) h):aI P (.slice u x lo (some hi) (some mx)) ty er h K:=by
 refine aM ?_;rw[ng,hu,hx,Option.map_some,Option.map_some,BU,hl,hr,hm,rD te.isSome,te.size];refine⟨by omega,by omega,by omega,by omega,?_⟩;have e1:((r:Int)-(l:Int)).toNat=r-l:=by omega
 have e2:((k:Int)-(l:Int)).toNat=k-l:=by omega
 have e3:((k:Int)=(l:Int))=(k=l):=propext Int.ofNat_inj;simp only[e1,e2,e3,Int.toNat_natCast];exact hk
theorem vg {o sz:Nat}(hy:ι b=some y):VR ι (QJ b o sz l r k) (.slice (if k=l then some ⟨y.r,o,none⟩else lg (some ⟨y.r,o,none⟩) (l*sz)) (r-l) (k-l)):=by
 unfold QJ;simp only[VR];refine⟨y,hy,?_⟩;by_cases hk:k=l
 .subst hk;simp
 .have:Nat.beq k l=false:=by cases hb:Nat.beq k l with|false=>rfl|true=>exact absurd (Nat.eq_of_beq_eq_true hb) hk
  rw[this,if_neg hk,gK]
theorem OM {o sz:Nat}(hy:ι b=some y)(h1:l<=r)(h2:r<=k):VR ι (V8 b o sz l r) (.slice (if k=l then some ⟨y.r,o,none⟩else lg (some ⟨y.r,o,none⟩) (l*sz)) (r-l) (k-l)):=by
 unfold V8;by_cases hk:l<r
 .rw[bX.2 hk,if_neg (by omega),gK];simp only[VR];exact⟨y,_,hy,rfl,by omega⟩
 .have:Nat.blt l r=false:=by cases hb:Nat.blt l r with|false=>rfl|true=>exact absurd (bX.1 hb) hk
  rw[this];simp only[VR];have h0:r-l=0:=by omega
  rw[h0];by_cases hkl:k=l
  .rw[if_pos hkl];exact⟨_,_,rfl⟩
  .rw[if_neg hkl,gK];exact⟨_,_,rfl⟩
theorem map_none {x:Option Operand}(h:x.map (ev er)=none):x=none:=by cases x<;>simp_all
theorem map_some {x:Option Operand}{v:Value}(h:x.map (ev er)=some v):∃o,x=some o/\ev er o=v:=by cases x<;>simp_all
theorem Pi (H:Sim P ι s h)(te:TF P el ei){len:Nat}(hy:ι b=some y)(hl:len<=y.cap):Ld s el ei.size b len<=y.cap:=by
 unfold Ld;split
 .rename_i cs ct hb;split
  .rename_i hc;simp only[Bool.and_eq_true]at hc;obtain rfl:=Nat.eq_of_beq_eq_true hc.1;have h1:=aH.1 hc.2;obtain⟨cur,hg,hcl,hvl,htl⟩:=qZ H hb hy;obtain⟨_,hcap,_⟩:=htl.2 rfl;rw[te.size]at hcap;show cs.length/ei.size<=y.cap;apply Nat.div_le_of_le_mul;rw[Nat.mul_comm,<-hcap];exact hcl
  .exact hl
 .exact hl
theorem ZE (H:Sim P ι s h){xv:T}(hu:P.underlying u=some (.slice el))(te:TF P el ei)(hx:VR ι xv (ev er x))(hl:OV ι lv (lo.map (ev er)))(hh:OV ι hv (hi.map (ev er)))(hm:OV ι mv (mx.map (ev er)))(hd:ZN s el ei.size xv lv hv mv=some t):aI P (.slice u x lo hi mx) ty er h (Post P ι s h t s):=by
 have two:∀{a:Option Addr} {len cap top l r k:Nat},mv=none->ev er x= .slice a len cap->nN lv hv mv len top=some (l,r,k)->top<=cap->
  (l<=r->r<=top->VR ι t (.slice (if cap=l then a else lg a (l*ei.size)) (r-l) (cap-l)))->aI P (.slice u x lo hi mx) ty er h (Post P ι s h t s):=by
  intro a len cap top l r k h0 h1 h2 h3 h4;subst h0;simp only[OV]at hm;obtain rfl:=map_none hm;obtain⟨b1,b2,_,b4,b5⟩:=qX hl hh h2;exact Yw hu te h1 b1 b2 b4 (by omega) (Post.pure H (h4 b4 b5))
 have three:∀{a:Option Addr} {len cap top l r k:Nat},mv≠none->ev er x= .slice a len cap->nN lv hv mv len top=some (l,r,k)->top<=cap->
  (VR ι t (.slice (if k=l then a else lg a (l*ei.size)) (r-l) (k-l)))->aI P (.slice u x lo hi mx) ty er h (Post P ι s h t s):=by
  intro a len cap top l r k h0 h1 h2 h3 h4;obtain⟨v,w,c1,c2,b1,b2,b3,b4,b5,b6⟩:=yN (cap:=cap) hl hh hm h0 h2;obtain⟨ho,rfl,rfl⟩:=map_some c1;obtain⟨mo,rfl,rfl⟩:=map_some c2;exact TU hu te h1 b1 b2 b3 b4 b5 (by omega) (Post.pure H h4)
 unfold ZN at hd;split at hd
 .split at hd
  .rename_i q hq;cases hd;obtain⟨l,r,k⟩:=q;simp only[VR]at hx;by_cases h0:mv=none
   .refine two h0 hx hq (Nat.le_refl 0) fun h1 h2=> ?_
    have:r=0:=by omega
    subst this;simp[VR,lg]
   .refine three h0 hx hq (Nat.le_refl 0) ?_;obtain⟨v,w,c1,c2,b1,b2,b3,b4,b5,b6⟩:=yN (cap:=0) hl hh hm h0 hq;have:k=0:=by omega
    subst this;have:r=0:=by omega
    subst this;simp[VR,lg]
  .cases hd
 .split at hd
  .rename_i q hq;cases hd;obtain⟨l,r,k⟩:=q;simp only[VR]at hx;obtain⟨a,c,hx⟩:=hx;refine two rfl hx hq (Nat.zero_le _) fun h1 h2=> ?_
   have h3:r=0:=by omega
   have h4:l=0:=by omega
   subst h3 h4;simp only[VR,Nat.zero_mul,lg,Option.map_some,Cm,if_true,ite_self];exact⟨_,_,rfl⟩
  .cases hd
 .split at hd
  .rename_i l r k hq;cases hd;simp only[VR]at hx;obtain⟨y,hy,hx⟩:=hx;by_cases h0:mv=none
   .subst h0;have hk:=(qX hl hh hq).2.2.1;subst hk;exact two rfl hx hq (Nat.le_refl _) fun h1 h2=>vg hy
   .exact three h0 hx hq (Nat.le_refl _) (vg hy)
  .cases hd
 .split at hd
  .rename_i b len l r k hq;simp only[VR]at hx;obtain⟨y,hy,hx,hle⟩:=hx;have hle:=Pi H te hy hle;split at hd
   .split at hd
    .cases hd;refine two rfl hx hq hle fun h1 h2=> ?_
     simp only[VR,Nat.zero_mul,gK,Nat.add_zero,ite_self,Nat.sub_zero];exact⟨y,hy,rfl,by omega⟩
    .cases hd;exact two rfl hx hq hle fun h1 h2=>OM hy h1 (by omega)
   .cases hd;exact three (by simp) hx hq hle (vg hy)
  .cases hd
 .split at hd
  .rename_i b o len l r k hq;simp only[VR]at hx;obtain⟨y,c,hy,hx,hle⟩:=hx;split at hd
   .split at hd
    .cases hd;refine two rfl hx hq hle fun h1 h2=> ?_
     simp only[VR,Nat.zero_mul,gK,Nat.add_zero,ite_self,Nat.sub_zero];exact⟨y,_,hy,rfl,by omega⟩
    .cases hd;exact two rfl hx hq hle fun h1 h2=>OM hy h1 (by omega)
   .cases hd;exact three (by simp) hx hq hle (vg hy)
  .cases hd
 .cases hd
theorem Vq (H:Sim P ι s h){a:List UInt8}(hu:P.underlying u=some .string)(hx:ev er x= .string ⟨⟨a⟩⟩)(hl:OV ι lv (lo.map (ev er)))(hh:OV ι hv (hi.map (ev er)))(hm:OV ι mv (mx.map (ev er)))(hd:Uk a lv hv mv=some t):aI P (.slice u x lo hi mx) ty er h (Post P ι s h t s):=by
 unfold Uk at hd;split at hd
 .rename_i l r k hq;cases hd;simp only[OV]at hm;obtain rfl:=map_none hm;obtain⟨b1,b2,_,b4,b5⟩:=qX hl hh hq;refine aM ?_;rw[ng,hu,hx,Option.map_none,Jz,lI,b1,b2,Dr];refine⟨by omega,by omega,by simp only[lI];omega,Post.pure H ?_⟩;simp only[VR,Int.toNat_natCast];congr 1;apply ByteArray.ext;rw[ByteArray.data_extract];apply Array.toList_inj.1;simp[Array.toList_extract,List.extract]
 .cases hd
theorem WY (H:Sim P ι s h){n:Nat}{xv:T}(hu:P.underlying u=some (.array n el))(te:TF P el ei)(hx:VR ι xv (ev er x))(hl:OV ι lv (lo.map (ev er)))(hh:OV ι hv (hi.map (ev er)))(hm:OV ι mv (mx.map (ev er)))(hd:TK ei.size n xv lv hv mv=some t):aI P (.slice u x lo hi mx) ty er h (Post P ι s h t s):=by
 unfold TK at hd;split at hd
 .rename_i b o;split at hd
  .rename_i l r k hq;cases hd;simp only[OV]at hm;obtain rfl:=map_none hm;obtain⟨b1,b2,rfl,b4,b5⟩:=qX hl hh hq;simp only[VR]at hx;obtain⟨y,hy,hx⟩:=hx;refine aM ?_;rw[ng,hu,hx,Option.map_none,Jc,b1,b2,rD te.isSome,te.size];refine⟨by omega,by omega,by omega,by omega,?_⟩;have e1:((r:Int)-(l:Int)).toNat=r-l:=by omega
   have e2:((k:Int)-(l:Int)).toNat=k-l:=by omega
   have e3:((k:Int)=(l:Int))=(k=l):=propext Int.ofNat_inj;simp only[e1,e2,e3,Int.toNat_natCast];exact Post.pure H (vg hy)
  .cases hd
 .cases hd
theorem Vz (ok:Ok P p)(re:RE ι m e er)(H:Sim P ι s h)(hd:ul p m e s u x lo hi mx=some (t,s')):aI P (.slice u x lo hi mx) ty er h (Post P ι s h t s'):=by
 unfold ul at hd;split at hd
 .rename_i xv lv hv mv hx hl hh hm;obtain⟨h1,rfl⟩:=fD hd
  replace hx:=ai re hx
  replace hl:=Ew re hl
  replace hh:=Ew re hh
  replace hm:=Ew re hm
  unfold Hm at h1;split at h1
  .rename_i ti hti;have tf:=ok.tf hti;split at h1
   .rename_i hdd;split at h1
    .simp only[VR]at hx;exact Vq H (tf.string hdd) hx hl hh hm h1
    .cases h1
   .rename_i el hdd;split at h1
    .rename_i ei hei;exact ZE H (tf.slice hdd) (ok.tf hei) hx hl hh hm h1
    .cases h1
   .rename_i n el hdd;split at h1
    .rename_i ei hei;exact WY H (tf.array hdd) (ok.tf hei) hx hl hh hm h1
    .cases h1
   .cases h1
  .cases h1
 .cases hd
end
end ops15
end Go.Run
namespace Go.Run
open Go Go.Eng
section ops16
variable {P:Program}{p:Pr}{ι:Io}{s s':S}{h:Heap}{m:Fm}{e:E}{er:Env}{ty:TypeId}{t:T}{K:Value->Heap->Prop}
section
variable {c:Sc}{op:BinOp}{r:Bool}{ti:TI}{u:TypeId}{v w:Value}{x y:Operand}{yt:TypeId}
theorem xu (h:scT P u=some c):P.plainKey u=true:=by
 unfold scT at h;unfold Program.plainKey;split at h<;>simp_all
theorem uB (a b:List UInt8):((⟨⟨a⟩⟩:ByteArray)==⟨⟨b⟩⟩)=uR a b:=by
 rw[kI,Bool.eq_iff_iff,MapKept.bytes_beq,str_eq,decide_eq_true_iff]
theorem za (a b:Int):(a==b)=yF a b:=by
 rw[mU,Bool.eq_iff_iff,beq_iff_eq,decide_eq_true_iff]
theorem TM {x y:T}(hu:scT P u=some c)(hv:VR ι x v)(hw:VR ι y w)(he:ry c x y=some r)(d:Nat)(W:World):(Op.equalIn (d+1) u v w).run P W= .ok r W:=by
 unfold ry at he;unfold scT at hu;split at he
 .split at hu<;>cases hu;rename_i q hq;split at he
  .rename_i hk;cases he;simp only[VR]at hv hw;subst hv hw;obtain rfl:=jR hk;simp[Op.equalIn,run_underlying hq,za]
  .cases he
 .split at hu<;>cases hu;rename_i hq;cases he;simp only[VR]at hv hw;subst hv hw;simp[Op.equalIn,run_underlying hq]
 .split at hu<;>cases hu;rename_i hq;cases he;simp only[VR]at hv hw;subst hv hw;simp[Op.equalIn,run_underlying hq,uB]
 .cases he
theorem Fv {x y:T}(hv:VR ι x v)(hw:VR ι y w)(he:ry c x y=some true):v=w:=by
 unfold ry at he;split at he
 .split at he
  .rename_i hk;simp only[VR]at hv hw;obtain rfl:=jR hk;rw[mU]at he;simp only[Option.some.injEq,decide_eq_true_iff]at he;rw[hv,hw,he]
  .cases he
 .simp only[VR]at hv hw;simp only[Option.some.injEq,beq_iff_eq]at he;rw[hv,hw,he]
 .simp only[VR]at hv hw;rw[kI]at he;simp only[Option.some.injEq,decide_eq_true_iff]at he;rw[hv,hw,he]
 .cases he
theorem VL.cons' {c:T}{cs:List T}{vs:List Value}(h:VL ι (c::cs) vs):∃v r,vs=v::r/\VR ι c v/\VL ι cs r:=by simpa only[VL]using h
theorem Ec {α:Type}{l:List α}{i:Nat}{v:α}{r:List α}(h:l.drop i=v::r):l[i]? =some v/\l.drop (i+1)=r:=by
 have h1:(l.drop i)[0]? =some v:=by rw[h];rfl
 rw[List.getElem?_drop]at h1;refine⟨by simpa using h1,?_⟩;have h2:(l.drop i).drop 1=r:=by rw[h];rfl
 rw[List.drop_drop]at h2;exact h2
theorem Ap:∀{s1 s2:List Sc} {cs ds:List T} {r:Bool},gZ (s1++s2) cs ds=some r->∃q,gZ s1 (cs.take s1.length) (ds.take s1.length)=some q/\(q=true->gZ s2 (cs.drop s1.length) (ds.drop s1.length)=some r)/\(q=false->r=false)
 |[],s2,cs,ds,r,h=>⟨true,by simp[gZ],fun _=>by simpa using h,fun h=>by cases h⟩
 |c::s1,s2,cs,ds,r,h=>by
  cases cs with
  |nil=>simp[gZ]at h
  |cons a cs=>
   cases ds with
   |nil=>simp[gZ]at h
   |cons b ds=>
    simp only[List.cons_append,gZ]at h;split at h
    .rename_i he;obtain⟨q,h1,h2,h3⟩:=Ap h;exact⟨q,by simpa[gZ,he]using h1,by simpa using h2,h3⟩
    .rename_i he;cases h;exact⟨false,by simp[gZ,he],⟨(fun h=>nomatch h),fun _=>rfl⟩⟩
    .cases h
noncomputable def EqG (P:Program)(ι:Io)(k:Nat):Prop:=∀u sc,flG P k u=some sc->∀(xs ys:Array Value) (off:Nat) (W:World) (cs ds:List T) (r:Bool),VL ι cs (xs.toList.drop off)->VL ι ds (ys.toList.drop off)->gZ sc (cs.take sc.length) (ds.take sc.length)=some r->
 ∃v w,(part u xs off).run P W= .ok v W/\(part u ys off).run P W= .ok w W/\∀d,(Op.equalIn (d+k) u v w).run P W= .ok r W
theorem AR {k:Nat}(IH:EqG P ι k){xs ys:Array Value}(d:Nat)(W:World):∀{fs:List Field} {i:Nat} {sc:List Sc} {cs ds:List T} {r:Bool},flE P (flG P k) fs i=some sc->VL ι cs (xs.toList.drop i)->VL ι ds (ys.toList.drop i)->gZ sc cs ds=some r->
 (Op.eqFields (d+k) xs ys fs).run P W= .ok r W
 |[],i,sc,cs,ds,r,hf,hc,hd,hb=>by
  simp only[flE,Option.some.injEq]at hf;subst hf;cases cs<;>cases ds<;>simp only[gZ,Option.some.injEq,reduceCtorEq]at hb;subst hb;simp[Op.eqFields]
 |f::fs,i,sc,cs,ds,r,hf,hc,hd,hb=>by
  simp only[flE]at hf;split at hf
  .rename_i c h1 h2;split at hf
   .rename_i rest h3;cases hf;simp only[Bool.and_eq_true,bne_iff_ne,ne_eq]at h1;obtain⟨h1,h4⟩:=h1;have h4:=Nat.eq_of_beq_eq_true h4;obtain⟨q,q1,q2,q3⟩:=Ap hb;obtain⟨v,w,p1,p2,p3⟩:=IH f.type c h2 xs ys f.offset W cs ds q (by rw[h4];exact hc) (by rw[h4];exact hd) q1;have p3:=p3 d;cases q with
    |true=>
     have ih:=AR IH d W h3 (by have:=VL.drop c.length hc;rwa[List.drop_drop]at this) (by have:=VL.drop c.length hd;rwa[List.drop_drop]at this) (q2 rfl);simp only[Op.eqFields,h1,ne_eq,not_false_eq_true,if_true,Sem.run_bind,p1,p2,p3,Result.andThen_ok];simpa using ih
    |false=>
     rw[q3 rfl];simp only[Op.eqFields,h1,ne_eq,not_false_eq_true,if_true,Sem.run_bind,p1,p2,p3,Result.andThen_ok];simp
   .cases hf
  .cases hf
theorem DR {k:Nat}(IH:EqG P ι k){xs ys:Array Value}{el:TypeId}{c:List Sc}(hel:flG P k el=some c)(d:Nat)(W:World):∀{n i:Nat} {cs ds:List T} {r:Bool},VL ι cs (xs.toList.drop (i*c.length))->VL ι ds (ys.toList.drop (i*c.length))->gZ (List.replicate n c).flatten cs ds=some r->
 (Op.eqItems (d+k) el c.length xs ys (List.range' i n)).run P W= .ok r W
 |0,i,cs,ds,r,hc,hd,hb=>by
  cases cs<;>cases ds<;>simp only[List.replicate_zero,List.flatten_nil,gZ,Option.some.injEq,reduceCtorEq]at hb;subst hb;simp[Op.eqItems]
 |n+1,i,cs,ds,r,hc,hd,hb=>by
  rw[List.replicate_succ,List.flatten_cons]at hb;obtain⟨q,q1,q2,q3⟩:=Ap hb;obtain⟨v,w,p1,p2,p3⟩:=IH el c hel xs ys (i*c.length) W cs ds q hc hd q1;have p3:=p3 d;rw[List.range'_succ];cases q with
  |true=>
   have e:i*c.length+c.length=(i+1)*c.length:=by rw[Nat.add_mul,Nat.one_mul]
   have ih:=DR IH hel d W (n:=n) (i:=i+1) (by have:=VL.drop c.length hc;rwa[List.drop_drop,e]at this) (by have:=VL.drop c.length hd;rwa[List.drop_drop,e]at this) (q2 rfl);simp only[Op.eqItems,Sem.run_bind,p1,p2,p3,Result.andThen_ok];simpa using ih
  |false=>
   rw[q3 rfl];simp only[Op.eqItems,Sem.run_bind,p1,p2,p3,Result.andThen_ok];simp
theorem vM {i:TypeInfo}(hi:P.info? u=some i):P.cellsOf u=szT P u:=by simp[szT,Program.cellsOf,hi]
theorem Nl {k:Nat}(IH:EqG P ι k){sc:List Sc}(hu:flG P (k+1) u=some sc)(hs:scT P u=none){xs ys:Array Value}{cs ds:List T}(hc:VL ι cs xs.toList)(hd:VL ι ds ys.toList)(hb:gZ sc cs ds=some r)(d:Nat)(W:World):
 (Op.equalIn (d+(k+1)) u (.agg xs) (.agg ys)).run P W= .ok r W:=by
 unfold flG at hu;rw[hs]at hu;simp only at hu;split at hu
 .cases hu
 .rename_i hst;split at hu
  .rename_i fs hq;split at hu
   .rename_i r' hr;split at hu
    .cases hu;rw[show d+(k+1)=(d+k)+1 from rfl,run_equalIn_struct W (d+k) u xs ys (by simp[Program.fieldsOf,hq]) hst];have hfo:P.fieldsOf u=fs:=by simp[Program.fieldsOf,hq]
     rw[hfo];exact AR IH d W hr (by simpa using hc) (by simpa using hd) hb
    .cases hu
   .cases hu
  .rename_i n el hq;split at hu
   .rename_i c hel;split at hu
    .rename_i hz;cases hu;simp only[Bool.and_eq_true]at hz;have hz:=Nat.eq_of_beq_eq_true hz.1;have hel':=hel;have hi:∃i,P.info? el=some i:=by
      cases k with
      |zero=>cases hel'
      |succ k'=>
       unfold flG at hel';have:∃d,P.underlying el=some d:=by
        cases hq:P.underlying el with
        |none=>(simp[scT,hq]at hel';split at hel'<;>cases hel')
        |some d=>exact⟨d,rfl⟩
       obtain⟨d,hd⟩:=this;exact info_of_underlying hd
     obtain⟨i,hi⟩:=hi;rw[show d+(k+1)=(d+k)+1 from rfl,run_equalIn_array W (d+k) xs ys hq hi,vM hi,hz,List.range_eq_range'];exact DR IH hel d W (by simpa using hc) (by simpa using hd) hb
    .cases hu
   .cases hu
  .cases hu
theorem Be {k:Nat}{sc:List Sc}(hu:flG P (k+1) u=some sc)(hs:scT P u=none)(xs:Array Value)(off:Nat)(W:World):(part u xs off).run P W= .ok (.agg (xs.extract off (off+sc.length))) W:=by
 unfold flG at hu;rw[hs]at hu;simp only at hu;split at hu
 .cases hu
 .split at hu
  .rename_i fs hq;obtain⟨i,hi⟩:=info_of_underlying hq;split at hu
   .split at hu
    .rename_i hz;cases hu;rw[<-Nat.eq_of_beq_eq_true hz];simp[part,isAgg,run_underlying hq,run_sizeOf W hi,vM hi]
    .cases hu
   .cases hu
  .rename_i n el hq;obtain⟨i,hi⟩:=info_of_underlying hq;split at hu
   .rename_i c hel;split at hu
    .rename_i hz;cases hu;simp only[Bool.and_eq_true]at hz;have hz:=Nat.eq_of_beq_eq_true hz.2;rw[List.length_flatten,List.map_replicate,List.sum_replicate_nat,<-hz];simp[part,isAgg,run_underlying hq,run_sizeOf W hi,vM hi]
    .cases hu
   .cases hu
  .cases hu
theorem Oq:∀k,EqG P ι k
 |0=>fun u sc h=>by cases h
 |k+1=>by
  intro u sc hu xs ys off W cs ds r hc hd hb;cases hs:scT P u with
  |some c=>
   unfold flG at hu;rw[hs]at hu;cases hu;cases cs with
   |nil=>simp[gZ]at hb
   |cons a cs=>
    cases ds with
    |nil=>simp[gZ]at hb
    |cons b ds=>
     obtain⟨v,vr,q1,q2,q3⟩:=hc.cons';obtain⟨w,wr,q4,q5,q6⟩:=hd.cons';obtain⟨q1,q7⟩:=Ec q1;obtain⟨q4,q8⟩:=Ec q4;refine⟨v,w,run_part_plain (P:=P) W (xu hs) (by simpa using q1),run_part_plain (P:=P) W (xu hs) (by simpa using q4),fun d=> ?_⟩;have he:ry c a b=some r:=by
      simp only[List.length_singleton,List.take_succ_cons,List.take_zero,gZ]at hb;split at hb
      .rename_i he;cases hb;exact he
      .rename_i he;cases hb;exact he
      .cases hb
     exact TM hs q2 q5 he (d+k) W
  |none=>
   have hl:∀zs:Array Value,(zs.extract off (off+sc.length)).toList=(zs.toList.drop off).take sc.length:=fun zs=>by
    rw[Array.toList_extract];simp[List.extract]
   refine⟨_,_,Be hu hs xs off W,Be hu hs ys off W,fun d=> ?_⟩;exact Nl (Oq k) hu hs (by rw[hl];exact VL.take _ hc) (by rw[hl];exact VL.take _ hd) hb d W
theorem EU:∀{sc:List Sc} {cs ds:List T} {vs ws:List Value},VL ι cs vs->VL ι ds ws->gZ sc cs ds=some true->vs=ws
 |[],cs,ds,vs,ws,hc,hd,hb=>by
  cases cs<;>cases ds<;>simp only[gZ,Option.some.injEq,reduceCtorEq]at hb;simp only[VL]at hc hd;rw[hc,hd]
 |c::sc,cs,ds,vs,ws,hc,hd,hb=>by
  cases cs with
  |nil=>simp[gZ]at hb
  |cons a cs=>
   cases ds with
   |nil=>simp[gZ]at hb
   |cons b ds=>
    obtain⟨v,vr,rfl,q2,q3⟩:=hc.cons';obtain⟨w,wr,rfl,q5,q6⟩:=hd.cons';simp only[gZ]at hb;split at hb
    .rename_i he;rw[Fv q2 q5 he,EU q3 q6 hb]
    .cases hb
    .cases hb
theorem NZ (u:TypeId)(x y:Value):∃d,Op.equal u x y=Op.equalIn (d+4) u x y:=⟨9996,rfl⟩
theorem jW (tf:TF P u ti){x y:T}(hv:VR ι x v)(hw:VR ι y w)(he:mG ti x y=some r)(W:World):
 (Op.equal u v w).run P W= .ok r W/\(∃a b,v= .agg a/\w= .agg b)/\P.eqGuardType P.depth u=false/\(r=true->v=w):=by
 unfold mG at he;split at he
 .split at he
  .cases he
  .rename_i a b q c fl hfl;simp only[VR]at hv hw;obtain⟨xs,rfl,hx⟩:=hv;obtain⟨ys,rfl,hy⟩:=hw;have hf:=tf.fl;rw[hfl]at hf;have hf:flT P u=c::fl:=by rcases hf with hf|hf;cases hf;exact hf
   unfold flT at hf;split at hf
   .rename_i r' hg hs hr;subst hf;obtain⟨d,hd⟩:=NZ u (.agg xs) (.agg ys);refine⟨?_,⟨_,_,rfl,rfl⟩,hg,?_⟩
    .rw[hd];exact Nl (Oq 3) hr hs hx hy he d W
    .intro hr;subst hr;have:=EU hx hy he;rw[Array.toList_inj.1 this]
   .cases hf
 .cases he
theorem Fh {a b:Value}(hx:ev er x=a)(hy:ev er y=b)(H:Sim P ι s h)(ho:op= .eql\/op= .neq)(hg:∀w,(eqGuard op u x y a b).run P w= .ok () w)(he:∀w,(Op.equal u a b).run P w= .ok r w)(hn:∀w,(binOp op u a b).run P w=((Op.equal u a b).run P w).andThen fun q w=> .ok (.bool (if op= .eql then q else !q)) w):
 aI P (.binOp op u x y yt) ty er h (Post P ι s h (.bool (if op= .eql then r else !r)) s):=by
 refine Af hx hy H ho hg fun w=> ?_
 rw[hn,he];rfl
theorem Jd (tf:TF P u ti){xv yv:T}(hx:VR ι xv (ev er x))(hy:VR ι yv (ev er y))(H:Sim P ι s h)(ho:op= .eql\/op= .neq)(he:mG ti xv yv=some r):
 aI P (.binOp op u x y yt) ty er h (Post P ι s h (.bool (if op= .eql then r else !r)) s):=by
 obtain⟨_,⟨a,b,ha,hb⟩,hg,_⟩:=jW tf hx hy he default;refine Fh ha hb H ho ?_ ?_ ?_
 .intro w;rcases ho with rfl|rfl<;>simp[eqGuard,hg]
 .intro w;have:=(jW tf hx hy he w).1;rwa[ha,hb]at this
 .intro w;rcases ho with rfl|rfl<;>simp[binOp,Result.andThen]
theorem ES {ps rs:Array TypeId}{vr:Bool}{a b:Value}(hu:P.underlying u=some (.func ps rs vr))(hx:ev er x=a)(hy:ev er y=b)(H:Sim P ι s h)(ho:op= .eql\/op= .neq)(hab:(a= .nilFunc/\b= .nilFunc/\r=true)\/(∃f c d,a= .func f c d/\b= .nilFunc/\r=false)):
 aI P (.binOp op u x y yt) ty er h (Post P ι s h (.bool (if op= .eql then r else !r)) s):=by
 refine Fh hx hy H ho ?_ ?_ ?_
 .intro w;rcases ho with rfl|rfl<;>rcases hab with⟨rfl,rfl,rfl⟩|⟨f,c,d,rfl,rfl,rfl⟩<;>simp[eqGuard]
 .intro w;rw[jS];generalize 9999=d;rcases hab with⟨rfl,rfl,rfl⟩|⟨f,c,d,rfl,rfl,rfl⟩<;>simp[Op.equalIn,run_underlying hu]
 .intro w;rcases ho with rfl|rfl<;>rcases hab with⟨rfl,rfl,rfl⟩|⟨f,c,d,rfl,rfl,rfl⟩<;>simp[binOp,Result.andThen]
theorem TF.ptr (H:TF P u ti){el:TypeId}(hd:ti.d= .ptr el):P.underlying u=some (.pointer el):=by
 obtain⟨d,hu⟩:=H.und;have:=H.d;rw[hd]at this;unfold mkD at this;rw[hu]at this;cases d<;>simp at this;rw[hu,this]
theorem TF.func (H:TF P u ti)(hd:ti.d= .func):∃a b c,P.underlying u=some (.func a b c):=by
 obtain⟨d,hu⟩:=H.und;have:=H.d;rw[hd]at this;unfold mkD at this;rw[hu]at this;cases d<;>simp at this;exact⟨_,_,_,hu⟩
theorem TF.iface (H:TF P u ti)(hd:ti.d= .iface):∃a,P.underlying u=some (.interface a):=by
 obtain⟨d,hu⟩:=H.und;have:=H.d;rw[hd]at this;unfold mkD at this;rw[hu]at this;cases d<;>simp at this;exact⟨_,hu⟩
theorem Mi {ms:Array _}(hu:P.underlying u=some (.interface ms))(hx:ev er x= .nilIface)(hy:ev er y= .nilIface)(hc:isC y=true)(H:Sim P ι s h)(ho:op= .eql\/op= .neq):
 aI P (.binOp op u x y yt) ty er h (Post P ι s h (.bool (if op= .eql then true else !true)) s):=by
 obtain⟨c,rfl⟩:∃c,y= .const c:=by cases y<;>first|exact⟨_,rfl⟩|cases hc
 refine Fh hx hy H ho ?_ ?_ ?_
 .intro w;rcases ho with rfl|rfl<;>simp[eqGuard]
 .intro w;rw[jS];generalize 9999=d;simp[Op.equalIn,run_underlying hu]
 .intro w;rcases ho with rfl|rfl<;>simp[binOp,Result.andThen]
theorem KA {x:T}(hv:VR ι x v)(hn:CQ x=some r):∃a n c,v= .slice a n c/\a.isNone=r:=by
 unfold CQ at hn;split at hn<;>cases hn<;>simp only[VR]at hv
 .exact⟨_,_,_,hv,rfl⟩
 .obtain⟨y,_,rfl⟩:=hv;exact⟨_,_,_,rfl,rfl⟩
 .obtain⟨y,_,rfl,_⟩:=hv;exact⟨_,_,_,rfl,rfl⟩
 .obtain⟨y,c,_,rfl,_⟩:=hv;exact⟨_,_,_,rfl,rfl⟩
 .obtain⟨a,c,rfl⟩:=hv;exact⟨_,_,_,rfl,rfl⟩
theorem Yk (ok:Ok P p)(H:Sim P ι s h){xv yv:T}(hti:p.ty u=some ti)(hx:VR ι xv (ev er x))(hy:VR ι yv (ev er y))(hny:yv= .iM->isC y=true)(ho:op= .eql\/op= .neq)(he:RY ti xv yv=some r):aI P (.binOp op u x y yt) ty er h (Post P ι s h (.bool (if op= .eql then r else !r)) s):=by
 have tf:=ok.tf hti;unfold RY at he;split at he
 .rename_i hd;split at he
  .rename_i a b;cases he;simp only[VR]at hx hy;exact Qw (tf.bool hd) hx hy H ho
  .cases he
 .rename_i el hd;split at he
  .obtain⟨a,n,c,h1,rfl⟩:=KA hx he;simp only[VR]at hy;exact Ms (tf.slice hd) h1 hy H ho
  .cases he
 .rename_i k v hd;split at he
  .cases he;simp only[VR]at hx hy;exact Gy (tf.map hd) hx hy H ho
  .cases he;simp only[VR]at hx hy;obtain⟨q,_,hx⟩:=hx;exact Gy (tf.map hd) hx hy H ho
  .cases he
 .rename_i el hd;split at he
  .cases he;simp only[VR]at hx hy;exact JI (tf.ptr hd) hx hy H ho
  .cases he;simp only[VR]at hx hy;obtain⟨q,_,hx⟩:=hx;exact JI (tf.ptr hd) hx hy H ho
  .cases he
 .rename_i hd;obtain⟨a,b,c,hu⟩:=tf.func hd;split at he
  .cases he;simp only[VR]at hx hy;exact ES hu hx hy H ho (.inl ⟨rfl,rfl,rfl⟩)
  .cases he;rename_i f c d;simp only[VR]at hx hy;refine ES hu rfl hy H ho (.inr ?_);split at hx
   .obtain⟨_,_,q,_,hx⟩:=hx;exact⟨_,_,_,hx,rfl,rfl⟩
   .obtain⟨_,_,hx,_⟩:=hx;exact⟨_,_,_,hx,rfl,rfl⟩
  .cases he
 .rename_i hd;obtain⟨a,hu⟩:=tf.iface hd;split at he
  .cases he;simp only[VR]at hx hy;exact Mi hu hx hy (hny rfl) H ho
  .cases he
 .exact Jd tf hx hy H ho he
 .exact Jd tf hx hy H ho he
 .cases he
theorem Vk (ok:Ok P p)(re:RE ι m e er)(H:Sim P ι s h)(hd:uw p m e s op u x y=some (t,s')):aI P (.binOp op u x y yt) ty er h (Post P ι s h t s'):=by
 unfold uw at hd;split at hd
 .rename_i a b hx hy;split at hd
  case h_2=>cases hd
  rename_i hnif;have hnif:b= .iM->isC y=true:=by rintro rfl;exact hnif
  obtain⟨h1,rfl⟩:=fD hd;have key:∀ti,p.ty u=some ti->ZF op (RY ti a b)=some t->aI P (.binOp op u x y yt) ty er h (Post P ι s' h t s'):=by
   intro ti hti h2;have:(op= .eql\/op= .neq)/\∃r,RY ti a b=some r/\t= .bool (if op= .eql then r else !r):=by
    generalize RY ti a b=o at h2;unfold ZF at h2;split at h2
    .split at h2
     .cases h2;exact⟨.inl rfl,_,rfl,by simp⟩
     .cases h2
    .split at h2
     .cases h2;exact⟨.inr rfl,_,rfl,by simp⟩
     .cases h2
    .cases h2
   obtain⟨h3,r,h4,rfl⟩:=this;exact Yk ok H hti (ai re hx) (ai re hy) hnif h3 h4
  have h1':=h1;unfold JJ at h1;split at h1
  .exact JC re H hx hy h1'
  .exact Ih re H hx hy h1'
  .exact Jl re H hx hy h1'
  .split at h1
   .rename_i ti hti;exact key ti hti h1
   .cases h1
 .cases hd
end
end ops16
end Go.Run
namespace Go.Run
open Go Go.Eng
section maps
variable {P:Program}{p:Pr}{ι:Io}{s s':S}{h:Heap}{m:Fm}{e:E}{er:Env}{ty:TypeId}{t:T}{K:Value->Heap->Prop}
section
variable {c:Nat}{es:List Ent}{k:T}{ki:TI}{l:List MapEntry}{o:Option Nat}{v:Value}
theorem EL.cons' {x:Ent}{xs:List Ent}(h:EL ι (x::xs) l):∃e r,l=e::r/\ER ι x e/\EL ι xs r:=h
theorem EL.length:∀{xs:List Ent} {l:List MapEntry},EL ι xs l->l.length=xs.length
 |[],l,h=>by have h:l=[]:=h;simp[h]
 |x::xs,l,h=>by obtain⟨e,r,rfl,_,h3⟩:=h.cons';simp[EL.length h3]
theorem EL.get:∀{xs:List Ent} {l:List MapEntry} {j:Nat} {x:Ent},EL ι xs l->xs[j]? =some x->∃e,l[j]? =some e/\ER ι x e
 |[],l,j,x,h,k=>by simp at k
 |y::xs,l,0,x,h,k=>by obtain⟨e,r,rfl,h2,h3⟩:=h.cons';simp at k;subst k;exact⟨e,rfl,h2⟩
 |y::xs,l,j+1,x,h,k=>by obtain⟨e,r,rfl,h2,h3⟩:=h.cons';simp at k;simpa using EL.get h3 k
theorem EL.append:∀{xs ys:List Ent} {l k:List MapEntry},EL ι xs l->EL ι ys k->EL ι (xs++ys) (l++k)
 |[],ys,l,k,h,q=>by have h:l=[]:=h;simpa[h]using q
 |x::xs,ys,l,k,h,q=>by obtain⟨e,r,rfl,h2,h3⟩:=h.cons';exact⟨e,r++k,rfl,h2,EL.append h3 q⟩
theorem EL.mod {f:Ent->Ent}{g:MapEntry->MapEntry}(hfg:∀x e,ER ι x e->ER ι (f x) (g e)):∀{xs:List Ent} {l:List MapEntry} {j:Nat},EL ι xs l->EL ι (wW f xs j) (l.modify j g)
 |[],l,j,h=>by have h:l=[]:=h;subst h;cases j<;>exact rfl
 |x::xs,l,0,h=>by obtain⟨e,r,rfl,h2,h3⟩:=h.cons';exact⟨g e,r,rfl,hfg _ _ h2,h3⟩
 |x::xs,l,j+1,h=>by
  obtain⟨e,r,rfl,h2,h3⟩:=h.cons';rw[List.modify_succ_cons];exact⟨e,r.modify j g,rfl,h2,EL.mod hfg h3⟩
theorem EL.del:∀{xs:List Ent} {l:List MapEntry} {j:Nat},EL ι xs l->EL ι (KM xs j) (l.eraseIdx j)
 |[],l,j,h=>by have h:l=[]:=h;subst h;exact rfl
 |x::xs,l,0,h=>by obtain⟨e,r,rfl,h2,h3⟩:=h.cons';exact h3
 |x::xs,l,j+1,h=>by obtain⟨e,r,rfl,h2,h3⟩:=h.cons';exact⟨e,r.eraseIdx j,rfl,h2,EL.del h3⟩
theorem Dh {f:Ent->Ent}(hf:∀x,(f x).2.2=x.2.2):∀(xs:List Ent) (j:Nat),(wW f xs j).map (·.2.2)=xs.map (·.2.2)
 |[],j=>rfl
 |x::xs,0=>by simp[wW,hf]
 |x::xs,j+1=>by simp[wW,Dh hf xs j]
theorem Gi:∀(xs:List Ent) (j:Nat),(KM xs j).Sublist xs
 |[],j=> .slnil
 |x::xs,0=>List.sublist_cons_self x xs
 |x::xs,j+1=>(Gi xs j).cons_cons x
theorem Jv:jZ es c<->(es.map (·.2.2)).Pairwise (·<·)/\∀w∈es.map (·.2.2),w<c:=by
 unfold jZ;constructor
 .rintro⟨a,b⟩;refine⟨a,fun w hw=> ?_⟩;obtain⟨x,hx,rfl⟩:=List.mem_map.1 hw;exact b x hx
 .rintro⟨a,b⟩;exact⟨a,fun x hx=>b _ (List.mem_map.2 ⟨x,hx,rfl⟩)⟩
theorem jZ.mod {f:Ent->Ent}(hf:∀x,(f x).2.2=x.2.2){j:Nat}(hb:jZ es c):jZ (wW f es j) c:=by
 rw[Jv]at *;rw[Dh hf];exact hb
theorem jZ.del {j:Nat}(hb:jZ es c):jZ (KM es j) c:=by
 have hs:=Gi es j;exact⟨List.Pairwise.sublist (hs.map _) hb.1,fun x hx=>hb.2 x (hs.subset hx)⟩
theorem jZ.push {v:T}(hb:jZ es c):jZ (es++[(k,v,c)]) (c+1):=by
 rw[Jv]at *;simp only[List.map_append,List.map_cons,List.map_nil];refine⟨?_,?_⟩
 .rw[List.pairwise_append];refine⟨hb.1,by simp,fun a ha b hb'=> ?_⟩;simp only[List.mem_singleton]at hb';subst hb';exact hb.2 a ha
 .intro w hw;simp only[List.mem_append,List.mem_singleton]at hw;rcases hw with hw|rfl
  .have:=hb.2 w hw;omega
  .omega
theorem xk {kt:TypeId}(tk:TF P kt ki){x y:T}{w:Value}{r:Bool}(hv:VR ι x v)(hw:VR ι y w)(he:fV ki x y=some r)(W:World):
 (Op.equal kt v w).run P W= .ok r W/\(r=true->v=w):=by
 obtain⟨d,hd⟩:=NZ kt v w;have sc:∀c,scT P kt=some c->ry c x y=some r->(Op.equal kt v w).run P W= .ok r W/\(r=true->v=w):=by
  intro c h1 h2;exact⟨by rw[hd];exact TM h1 hv hw h2 (d+3) W,fun hr=>by subst hr;exact Fv hv hw h2⟩
 unfold fV at he;split at he
 .rename_i q hq;exact sc .i (by unfold scT;rw[tk.int hq]) he
 .rename_i hq;exact sc .b (by unfold scT;rw[tk.bool hq]) he
 .rename_i hq;exact sc .s (by unfold scT;rw[tk.string hq]) he
 .exact⟨(jW tk hv hw he W).1,(jW tk hv hw he W).2.2.2⟩
 .exact⟨(jW tk hv hw he W).1,(jW tk hv hw he W).2.2.2⟩
 .cases he
noncomputable def FR (l:List MapEntry)(i:Nat)(v:Value):Option Nat->Option (Nat×Value)->Prop
 |none,r=>r=none
 |some j,r=>∃e,l[j]? =some e/\e.key=v/\r=some (i+j,e.val)
theorem FR.step {e:MapEntry}{i:Nat}{r:Option (Nat×Value)}(H:FR l (i+1) v o r):FR (e::l) i v (o.map (·+1)) r:=by
 cases o with
 |none=>exact H
 |some j=>
  obtain⟨e',h1,h2,h3⟩:=H;exact⟨e',by simpa using h1,h2,by rw[h3];simp;omega⟩
theorem tH {x:Ent}(h:iT ki k (x::es)=some o):
 (fV ki k x.1=some true/\o=some 0)\/(fV ki k x.1=some false/\∃o',iT ki k es=some o'/\o=o'.map (·+1)):=by
 simp only[iT]at h;split at h
 .rename_i h1;cases h;exact .inl ⟨h1,rfl⟩
 .rename_i h1;refine .inr ⟨h1,?_⟩;split at h
  .rename_i j hj;cases h;exact⟨_,hj,rfl⟩
  .rename_i hj;cases h;exact⟨_,hj,rfl⟩
  .cases h
 .cases h
theorem Oa {kt:TypeId}{ki:TI}(tk:TF P kt ki){k:T}{v:Value}(hv:VR ι k v)(W:World):∀{es:List Ent} {l:List MapEntry} {i:Nat} {o:Option Nat},EL ι es l->iT ki k es=some o->
 ∃r,(Instr.findAsking kt v l i).run P W= .ok r W/\FR l i v o r
 |[],l,i,o,hl,hf=>by
  have hl:l=[]:=hl;subst hl;simp only[iT,Option.some.injEq]at hf;subst hf;exact⟨none,by simp[Instr.findAsking],rfl⟩
 |x::es,l,i,o,hl,hf=>by
  obtain⟨e,l,rfl,h2,h3⟩:=hl.cons';rcases tH hf with⟨h4,rfl⟩|⟨h4,o',h5,rfl⟩
  .obtain⟨q1,q2⟩:=xk tk hv h2.1 h4 W;exact⟨some (i,e.val),by simp[Instr.findAsking,q1,Result.andThen],⟨e,rfl,(q2 rfl).symm,rfl⟩⟩
  .obtain⟨q1,_⟩:=xk tk hv h2.1 h4 W;obtain⟨r,q3,q4⟩:=Oa tk hv W (i:=i+1) h3 h5;exact⟨r,by simp[Instr.findAsking,q1,Result.andThen,q3],q4.step⟩
noncomputable def ScD:TypeDesc->Sc->Prop
 | .int _,.i=>True
 | .bool,.b=>True
 | .string,.s=>True
 |_,_=>False
theorem Nb {ki:TI}{d:TypeDesc}{c:Sc}{k:T}{v:Value}(hv:VR ι k v)(hk:∀y,fV ki k y=ry c k y)(hd:ScD d c):
 ∀{es:List Ent} {l:List MapEntry} {i:Nat} {o:Option Nat},EL ι es l->iT ki k es=some o->∃r,Instr.findNow d v l i=some r/\FR l i v o r
 |[],l,i,o,hl,hf=>by
  have hl:l=[]:=hl;subst hl;simp only[iT,Option.some.injEq]at hf;subst hf;exact⟨none,by simp[Instr.findNow],rfl⟩
 |x::es,l,i,o,hl,hf=>by
  obtain⟨e,l,rfl,h2,h3⟩:=hl.cons';have key:∀r,fV ki k x.1=some r->Instr.sameNow d v e.key=some r:=by
   intro r hr;rw[hk]at hr;unfold ry at hr;split at hr
   .split at hr
    .rename_i hkk;cases hr;have hx:=h2.1
     simp_all only[VR]
     cases d<;>simp[ScD]at hd;obtain rfl:=jR hkk;simp[Instr.sameNow,za]
    .cases hr
   .cases hr;have hx:=h2.1
    simp_all only[VR]
    cases d<;>simp[ScD]at hd;simp[Instr.sameNow]
   .cases hr;have hx:=h2.1
    simp_all only[VR]
    cases d<;>simp[ScD]at hd;simp[Instr.sameNow,uB]
   .cases hr
  rcases tH hf with⟨h4,rfl⟩|⟨h4,o',h5,rfl⟩
  .have q1:=key _ h4;rw[hk]at h4;exact⟨some (i,e.val),by simp[Instr.findNow,q1],⟨e,rfl,(Fv hv h2.1 h4).symm,rfl⟩⟩
  .have q1:=key _ h4;obtain⟨r,q3,q4⟩:=Nb hv hk hd (i:=i+1) h3 h5;exact⟨r,by simp[Instr.findNow,q1,q3],q4.step⟩
theorem jH {kt:TypeId}(tk:TF P kt ki)(hv:VR ι k v)(hs:fV ki k k=some true)(hl:EL ι es l)(hf:iT ki k es=some o)(W:World):
 ∃r,(Instr.findKey kt v l).run P W= .ok r W/\FR l 0 v o r:=by
 have ag:(match P.underlying kt with|some (.array _ _)|some (.struct _)=>true|_=>false)=true->∃r,(Instr.findKey kt v l).run P W= .ok r W/\FR l 0 v o r:=by
  intro hw;rw[run_findKey_eq W hw];exact Oa tk hv W hl hf
 have nw:∀(c:Sc) (d:TypeDesc),P.underlying kt=some d->(∀y,fV ki k y=ry c k y)->ScD d c->
  ∃r,(Instr.findKey kt v l).run P W= .ok r W/\FR l 0 v o r:=by
  intro c d hu h1 h2;obtain⟨r,q1,q2⟩:=Nb hv h1 h2 (i:=0) hl hf;exact⟨r,MapKept.run_findKey hu q1,q2⟩
 have hs':=hs;unfold fV at hs;split at hs
 .rename_i q hq;exact nw .i _ (tk.int hq) (fun y=>by unfold fV;rw[hq]) trivial
 .rename_i hq;exact nw .b _ (tk.bool hq) (fun y=>by unfold fV;rw[hq]) trivial
 .rename_i hq;exact nw .s _ (tk.string hq) (fun y=>by unfold fV;rw[hq]) trivial
 .rename_i fs hq;obtain⟨gs,hu,_⟩:=tk.lV hq;exact ag (by rw[hu])
 .rename_i n el hq;exact ag (by rw[tk.array hq])
 .cases hs
theorem He {u:TypeId}{c:Sc}(hu:scT P u=some c)(em:Bool)(n:Nat)(v:Value)(W:World):(Instr.checkKey em (n+1) u v).run P W= .ok () W:=by
 unfold scT at hu;split at hu
 .rename_i q hq;simp[Instr.checkKey,run_underlying hq]
 .rename_i hq;simp[Instr.checkKey,run_underlying hq]
 .rename_i hq;simp[Instr.checkKey,run_underlying hq]
 .cases hu
end
end maps
end Go.Run
namespace Go.Run
open Go Go.Eng
section maps2
variable {P:Program}{p:Pr}{ι:Io}{s s':S}{h:Heap}{m:Fm}{e:E}{er:Env}{ty:TypeId}{t:T}{K:Value->Heap->Prop}
section
variable {k:T}{ki:TI}{u:TypeId}{v:Value}{x:T}
theorem J8:∀{sc:List Sc} {cs ds:List T},gZ sc cs ds=some true->cs.length=sc.length
 |[],cs,ds,hb=>by cases cs<;>cases ds<;>simp_all [gZ]
 |c::sc,cs,ds,hb=>by
  cases cs with
  |nil=>simp[gZ]at hb
  |cons a cs=>
   cases ds with
   |nil=>simp[gZ]at hb
   |cons b ds=>
    simp only[gZ]at hb;split at hb
    .simp[J8 hb]
    .cases hb
    .cases hb
noncomputable def ZV (P:Program)(k:Nat):Prop:=∀u sc,flG P k u=some sc->∀(xs:Array Value) (off:Nat),off+sc.length<=xs.size->∀(em:Bool) (W:World),∃v,(part u xs off).run P W= .ok v W/\∀n,(Instr.checkKey em (n+k) u v).run P W= .ok () W
theorem Gq {k:Nat}(IH:ZV P k){xs:Array Value}(em:Bool)(W:World):∀{fs:List Field} {i:Nat} {sc:List Sc},flE P (flG P k) fs i=some sc->i+sc.length<=xs.size->∀f∈fs,f.name≠ "_" /\∃v,(part f.type xs f.offset).run P W= .ok v W/\∀n,(Instr.checkKey em (n+k) f.type v).run P W= .ok () W
 |[],i,sc,hf,hl,f,hm=>by simp at hm
 |g::fs,i,sc,hf,hl,f,hm=>by
  simp only[flE]at hf;split at hf
  .rename_i c h1 h2;split at hf
   .rename_i rest h3;cases hf;simp only[Bool.and_eq_true,bne_iff_ne,ne_eq]at h1;rw[List.length_append]at hl;rcases List.mem_cons.1 hm with rfl|hm
    .exact⟨h1.1,IH f.type c h2 xs f.offset (by rw[Nat.eq_of_beq_eq_true h1.2];omega) em W⟩
    .exact Gq IH em W h3 (by omega) f hm
   .cases hf
  .cases hf
theorem PD {k:Nat}(IH:ZV P k){sc:List Sc}(hu:flG P (k+1) u=some sc)(hs:scT P u=none){xs:Array Value}(hl:sc.length<=xs.size)(em:Bool)(n:Nat)(W:World):(Instr.checkKey em (n+(k+1)) u (.agg xs)).run P W= .ok () W:=by
 unfold flG at hu;rw[hs]at hu;simp only at hu;rw[show n+(k+1)=(n+k)+1 from rfl,Instr.checkKey];split at hu
 .cases hu
 .split at hu
  .rename_i fs hq;split at hu
   .rename_i r' hr;split at hu
    .cases hu;have each:=Gq IH em W (xs:=xs) hr (by omega);simp only[Sem.run_bind,run_underlying hq,Result.andThen_ok];rw[<-Array.forIn_toList];clear hr hq;generalize fs.toList=L at each;induction L with
     |nil=>simp
     |cons f L ih=>
      obtain⟨hn,v,p1,p2⟩:=each f (by simp);have p2:=p2 n;simp only[List.forIn_cons,Sem.run_bind,hn,ne_eq,not_false_eq_true,if_true,Result.andThen_ok,p1,p2,Sem.run_pure];exact ih (fun y hy=>each y (by simp[hy]))
    .cases hu
   .cases hu
  .rename_i m el hq;split at hu
   .rename_i c hel;split at hu
    .rename_i hz;cases hu;simp only[Bool.and_eq_true]at hz;have hz:=Nat.eq_of_beq_eq_true hz.1;have hi:∃i,P.info? el=some i:=by
      cases k with
      |zero=>cases hel
      |succ k'=>
       have hel':=hel;unfold flG at hel';have:∃d,P.underlying el=some d:=by
        cases hq:P.underlying el with
        |none=>(simp[scT,hq]at hel';split at hel'<;>cases hel')
        |some d=>exact⟨d,rfl⟩
       obtain⟨d,hd⟩:=this;exact info_of_underlying hd
     obtain⟨i,hi⟩:=hi;have hco:P.cellsOf el=c.length:=(vM hi).trans hz;rw[List.length_flatten,List.map_replicate,List.sum_replicate_nat]at hl;simp only[Sem.run_bind,run_underlying hq,Result.andThen_ok];simp only[Std.Legacy.Range.forIn_eq_forIn_range',Std.Legacy.Range.size,Nat.sub_zero,Nat.add_one_sub_one,Nat.div_one];have each:∀j∈List.range' 0 m,∃v,(part el xs (j*c.length)).run P W= .ok v W/\∀n,(Instr.checkKey em (n+k) el v).run P W= .ok () W:=by
      intro j hj;simp only[List.mem_range'_1]at hj;have h1:(j+1)*c.length<=m*c.length:=Nat.mul_le_mul_right _ (by omega);rw[Nat.add_mul,Nat.one_mul]at h1;exact IH el c hel xs (j*c.length) (by omega) em W
     generalize List.range' 0 m=is at each;clear hq hl;induction is with
     |nil=>simp
     |cons j is ih=>
      obtain⟨v,p1,p2⟩:=each j (by simp);have p2:=p2 n;simp only[List.forIn_cons,Sem.run_bind,run_sizeOf W hi,hco,Result.andThen_ok,p1,p2,Sem.run_pure];exact ih (fun y hy=>each y (by simp[hy]))
    .cases hu
   .cases hu
  .cases hu
theorem Og:∀k,ZV P k
 |0=>fun u sc h=>by cases h
 |k+1=>by
  intro u sc hu xs off hl em W;cases hs:scT P u with
  |some c=>
   unfold flG at hu;rw[hs]at hu;cases hu;have hlt:off<xs.size:=by simp at hl;omega
   exact⟨xs[off],run_part_plain (P:=P) W (xu hs) (by simp[hlt]),fun n=>He hs em (n+k) _ W⟩
  |none=>
   refine⟨_,Be hu hs xs off W,fun n=>PD (Og k) hu hs ?_ em n W⟩;rw[Array.size_extract];omega
theorem Qy {ti:TI}(tf:TF P u ti)(hv:VR ι x v)(he:mG ti x x=some true)(em:Bool)(n:Nat)(W:World):(Instr.checkKey em (n+4) u v).run P W= .ok () W:=by
 unfold mG at he;split at he
 .split at he
  .cases he
  .rename_i a c fl hfl;simp only[VR]at hv;obtain⟨xs,rfl,hx⟩:=hv;have hlen:=J8 he;have hl:=hx.length;have hf:=tf.fl;rw[hfl]at hf;have hf:flT P u=c::fl:=by rcases hf with hf|hf;cases hf;exact hf
   unfold flT at hf;split at hf
   .rename_i r' hg hs hr;subst hf;exact PD (Og 3) hr hs (by rw[<-Array.length_toList];omega) em n W
   .cases hf
 .cases he
theorem gM {kt:TypeId}(tk:TF P kt ki)(hv:VR ι k v)(hs:fV ki k k=some true)(em:Bool)(W:World):(Instr.checkKey em 10000 kt v).run P W= .ok () W:=by
 have sc:∀c,scT P kt=some c->(Instr.checkKey em 10000 kt v).run P W= .ok () W:=fun c hc=>He hc em 9999 v W
 have ag:mG ki k k=some true->(Instr.checkKey em 10000 kt v).run P W= .ok () W:=fun he=>Qy tk hv he em 9996 W
 unfold fV at hs;split at hs
 .rename_i q hq;exact sc .i (by unfold scT;rw[tk.int hq])
 .rename_i hq;exact sc .b (by unfold scT;rw[tk.bool hq])
 .rename_i hq;exact sc .s (by unfold scT;rw[tk.string hq])
 .exact ag hs
 .exact ag hs
 .cases hs
theorem zi {c:Sc}(hv:VR ι x v)(he:ry c x x=some true)(n:Nat):Instr.sameBits n v v=true:=by
 unfold ry at he;split at he
 .simp only[VR]at hv;subst hv;simp[Instr.sameBits]
 .simp only[VR]at hv;subst hv;simp[Instr.sameBits]
 .simp only[VR]at hv;subst hv;simp[Instr.sameBits,uB,kI]
 .cases he
theorem EF (n:Nat):∀{sc:List Sc} {cs:List T} {vs:List Value},VL ι cs vs->gZ sc cs cs=some true->(vs.zip vs).all (fun(x,y)=>Instr.sameBits n x y)=true
 |[],cs,vs,hc,hb=>by
  cases cs with
  |nil=>simp only[VL]at hc;simp[hc]
  |cons a cs=>simp[gZ]at hb
 |c::sc,cs,vs,hc,hb=>by
  cases cs with
  |nil=>simp[gZ]at hb
  |cons a cs=>
   obtain⟨v,vr,rfl,q2,q3⟩:=hc.cons';simp only[gZ]at hb;split at hb
   .rename_i he;simp only[List.zip_cons_cons,List.all_cons,Bool.and_eq_true];exact⟨zi q2 he n,EF n q3 hb⟩
   .cases hb
   .cases hb
theorem xS (hv:VR ι k v)(hs:fV ki k k=some true)(W:World):(Instr.keyThatStays v v).run P W= .ok v W:=by
 have hb:Instr.sameBits 10000 v v=true:=by
  have ag:mG ki k k=some true->Instr.sameBits 10000 v v=true:=by
   intro he;unfold mG at he;split at he
   .split at he
    .cases he
    .rename_i a c fl hfl;simp only[VR]at hv;obtain⟨xs,rfl,hx⟩:=hv;show(xs.size==xs.size&&(xs.toList.zip xs.toList).all fun(x,y)=>Instr.sameBits 9999 x y)=true;simp only[beq_self_eq_true,Bool.true_and];exact EF 9999 hx he
   .cases he
  unfold fV at hs;split at hs
  .exact zi hv hs _
  .exact zi hv hs _
  .exact zi hv hs _
  .exact ag hs
  .exact ag hs
  .cases hs
 simp[Instr.keyThatStays,hb]
theorem jN (H:Sim P ι s h){b:Nat}{es:List Ent}{c:Nat}(hb:s.at b=some (.map es c)){y:Inf}(hy:ι b=some y):∃ents,h[y.r]? =some (.map ents c)/\EL ι es ents.toList/\jZ es c:=by
 obtain⟨y',ob,h1,h2,h3⟩:=H.obj b _ hb;rw[hy]at h1;cases h1;obtain⟨ents,rfl,h4,h5⟩:=h3;exact⟨ents,h2,h4,h5⟩
theorem o9 (ok:Ok P p){vi:TI}(hm:EH p u=some (ki,vi)):∃kt vt,P.underlying u=some (.map kt vt)/\TF P kt ki/\TF P vt vi:=by
 unfold EH at hm;split at hm
 .rename_i ti hti;split at hm
  .rename_i kt vt hd;split at hm
   .rename_i ki' vi' h1 h2;cases hm;exact⟨kt,vt,(ok.tf hti).map hd,ok.tf h1,ok.tf h2⟩
   .cases hm
  .cases hm
 .cases hm
theorem CV {ti:TI}(tf:TF P u ti):∃z,(∀W,(zeroValue u).run P W= .ok z W)/\∀ι,VR ι ti.zero z:=by
 obtain⟨z,h1,h2⟩:=tf.zero;refine⟨z,fun W=> ?_,h2⟩;unfold dJ at h1;cases hi:P.info? u with
 |none=>simp[hi]at h1
 |some i=>simp only[hi,Option.bind_some]at h1;simp[zeroValue,typeInfo,hi,h1]
theorem U6 (H:Sim P ι s h)(hv:VR ι x v){es:List Ent}(he:MZ s x=some es):
 ∃ents:Array MapEntry,EL ι es ents.toList/\((v= .map none/\ents= #[])\/∃r c,v= .map (some r)/\h[r]? =some (.map ents c)):=by
 unfold MZ at he;split at he
 .cases he;simp only[VR]at hv;exact⟨#[],rfl,.inl ⟨hv,rfl⟩⟩
 .rename_i b;simp only[VR]at hv;obtain⟨y,hy,hv⟩:=hv;split at he
  .rename_i es' c hb;cases he;obtain⟨ents,h1,h2,_⟩:=jN H hb hy;exact⟨ents,h2,.inr ⟨_,_,hv,h1⟩⟩
  .cases he
 .cases he
theorem Lf (ok:Ok P p)(H:Sim P ι s h){xv kv:Value}{b:Bool}(hx:VR ι x xv)(hk:VR ι k kv)(hd:G8 p s u x k b=some t):
 ∃v,VR ι t v/\∀W:World,W.heap=h->(Instr.lookup u xv kv b).run P W= .ok v W:=by
 unfold G8 at hd;split at hd
 .rename_i ki vi es hm he;obtain⟨kt,vt,hu,tk,tv⟩:=o9 ok hm;obtain⟨z,z1,z2⟩:=CV tv;obtain⟨ents,h1,h2⟩:=U6 H hx he;split at hd
  .rename_i hs;split at hd
   .rename_i j hf;split at hd
    .rename_i en hen;cases hd;obtain⟨e',g1,g2⟩:=h1.get hen;refine⟨if b then .tuple #[e'.val,.bool true]else e'.val,?_,fun W hW=> ?_⟩
     .cases b
      .exact g2.2.1
      .simp only[VR,if_true];exact⟨_,rfl,by simp[VL,VR,g2.2.1]⟩
     .obtain⟨r,q1,q2⟩:=jH tk hk hs h1 hf W;obtain⟨e'',q3,_,rfl⟩:=q2;rw[g1]at q3;cases q3;subst hW;have c1:=gM tk hk hs ents.isEmpty W;rcases h2 with⟨rfl,rfl⟩|⟨r',c,rfl,hr⟩
      .simp at g1
      .have hg:=MapKept.run_getObj_map (P:=P) hr;cases b<;>simp[Instr.lookup,Sem.run_bind,run_underlying hu,hg,Result.andThen,c1,q1]
    .cases hd
   .rename_i hf;cases hd;refine⟨if b then .tuple #[z,.bool false]else z,?_,fun W hW=> ?_⟩
    .cases b
     .exact z2 ι
     .simp only[VR,if_true];exact⟨_,rfl,by simp[VL,VR,z2 ι]⟩
    .obtain⟨r,q1,q2⟩:=jH tk hk hs h1 hf W;have q2:r=none:=q2;subst q2;subst hW;have c1:=gM tk hk hs ents.isEmpty W;rcases h2 with⟨rfl,rfl⟩|⟨r',c,rfl,hr⟩
     .have c1:(Instr.checkKey true 10000 kt kv).run P W= .ok () W:=by simpa using c1
      have q1:(Instr.findKey kt kv []).run P W= .ok none W:=by simpa using q1
      cases b<;>simp[Instr.lookup,Sem.run_bind,run_underlying hu,Result.andThen,c1,q1,z1]
     .have hg:=MapKept.run_getObj_map (P:=P) hr;cases b<;>simp[Instr.lookup,Sem.run_bind,run_underlying hu,hg,Result.andThen,c1,q1,z1]
   .cases hd
  .cases hd
 .cases hd
theorem JO (ok:Ok P p)(re:RE ι m e er)(H:Sim P ι s h){x k:Operand}{b:Bool}(hd:kW p m e s u x k b=some (t,s')):aI P (.lookup u x k b) ty er h (Post P ι s h t s'):=by
 unfold kW at hd;split at hd
 .rename_i xv kv hx hk;obtain⟨h1,rfl⟩:=fD hd;obtain⟨v,q1,q2⟩:=Lf ok H (ai re hx) (ai re hk) h1;refine aK rfl v (Post.pure H q1) fun W hW=> ?_
  have:=q2 W hW;simp[execOp,this]
 .cases hd
end
end maps2
end Go.Run
