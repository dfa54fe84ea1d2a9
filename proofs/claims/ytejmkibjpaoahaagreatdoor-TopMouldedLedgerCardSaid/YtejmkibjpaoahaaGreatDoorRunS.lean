/- Lemmas. No condition. -/
import Derived.Test.YtejmkibjpaoahaaGreatDoorRun
import Derived.Laws.RangeString
import Derived.MapFrom
import Derived.ChangeKeysEq
open Nat renaming eq_of_beq_eq_true→aC,beq→aX,le_refl→bi,ble→bn,lt_of_lt_of_le→bv,le_trans→fw,add_zero→ko,blt→kV,add_mul→lc,min_le_left→qm,min_eq_left→tT,min_le_right→wV,zero_mul→zx,sub_zero→Ol
open Bool renaming and_eq_true→aF,false_eq_true→eB,eq_iff_iff→mD
open Go.Result renaming andThen_ok→aN,andThen→cZ
open List renaming getElem?_eq_some_iff→aS,replicate→aZ,mem_map→fo,take_succ_cons→kY,map_cons→lT,take_take→lX,mem_singleton→mJ,flatten_cons→qb,cons_append→qp,drop_drop→rA,getElem?_map→rV,replicate_succ→zm,drop_take→zB,sum_replicate_nat→CW,length_flatten→JF,all_cons→Mc,map_replicate→Md,forIn_cons→OZ,range'→PR
open Go.Sem renaming run_bind→aY,run_pure→bE,run→Lj
open Array renaming toList_inj→bz,length_toList→dC,getElem?_push→iq,toList_extract→rM
open Int renaming ofNat_eq_natCast→bL,toNat_natCast→uA,ofNat_inj→Ma,emod_add_emod→MO,le_trans→Oe
open Go.Instr renaming checkKey→ic,findAsking→mK,sameBits→rz,lookup→xU,findKey→yR,keyThatStays→zt,findNow→AA,sameNow→AB
open Option renaming bind_some→kE,map_eq_some_iff→kS,map_some→sw,map_none→GL
open Go.IntKind renaming signed→lN,bits→qz,max→sF,min→sK
open Go.Op renaming equalIn→qf,equal→xR,eqFields→KW,eqItems→Od
set_option linter.unusedVariables false
set_option linter.unusedSimpArgs false
namespace Go.Run
open Go Go.Eng
section trees
variable {α β:Type}
theorem aJ {b:Bool}{x y:α}:ite b x y=if b=true then x else y:=by cases b<;>rfl
noncomputable def En.set (q:Pa)(v:α)(t:En α):En α:=En.eU q v t id
theorem En.SA (q:Pa)(v:α):∀(β:Type) (t:En α) (k:En α->β),En.eU q v t k=k (En.set q v t):=by
 induction q with
 |e=>intro β t k;rfl
 |o q ih=>
  intro β t k;cases t with
  |leaf w=>
   show En.eU q v (.leaf w) (fun l=>k (.node l (.leaf w)))=k (En.eU q v (.leaf w) (fun l=> .node l (.leaf w)));rw[ih,ih]
  |node l r=>
   show En.eU q v l (fun l=>k (.node l r))=k (En.eU q v l (fun l=> .node l r));rw[ih,ih]
 |i q ih=>
  intro β t k;cases t with
  |leaf w=>
   show En.eU q v (.leaf w) (fun r=>k (.node (.leaf w) r))=k (En.eU q v (.leaf w) (fun r=> .node (.leaf w) r));rw[ih,ih]
  |node l r=>
   show En.eU q v r (fun r=>k (.node l r))=k (En.eU q v r (fun r=> .node l r));rw[ih,ih]
theorem En.aV (q:Pa)(v:α)(t:En α)(k:En α->β):En.eU q v t k=k (En.set q v t):=En.SA q v β t k
noncomputable def Pa.len:Pa->Nat
 | .e=>0
 | .o q=>q.len+1
 | .i q=>q.len+1
theorem Pa.of_succ (d n:Nat):Pa.of (d+1) n=if n % 2=0 then .o (Pa.of d (n/2))else .i (Pa.of d (n/2)):=by
 show ite (aX (n % 2) 0) (Pa.o (Pa.of d (n/2))) (Pa.i (Pa.of d (n/2)))=_;rw[aJ];by_cases h:n % 2=0
 .simp[h]
 .have:aX (n % 2) 0=false:=by
   cases hb:aX (n % 2) 0 with
   |false=>rfl
   |true=>exact absurd (aC hb) h
  simp[h,this]
theorem Pa.Ug (d:Nat):∀n,(Pa.of d n).len=d:=by
 induction d with
 |zero=>intro n;rfl
 |succ d ih=>
  intro n;rw[Pa.of_succ];split<;>simp[Pa.len,ih]
theorem Pa.Yu (d:Nat):∀{a b:Nat},a<2^d->b<2^d->Pa.of d a=Pa.of d b->a=b:=by
 induction d with
 |zero=>intro a b g j _;simp at g j;omega
 |succ d ih=>
  intro a b g j h;rw[Pa.of_succ,Pa.of_succ]at h;have q:a/2<2^d:=by rw[Nat.pow_succ]at g;omega
  have A:b/2<2^d:=by rw[Nat.pow_succ]at j;omega
  split at h<;>split at h
  .have:=ih q A (by simpa using h);omega
  .cases h
  .cases h
  .have:=ih q A (by simpa using h);omega
theorem En.BS (q:Pa)(t:En α):En.get (.o q) t=match t with| .leaf v=>v| .node l _=>En.get q l:=by cases t<;>rfl
theorem En.Aq (q:Pa)(t:En α):En.get (.i q) t=match t with| .leaf v=>v| .node _ r=>En.get q r:=by cases t<;>rfl
theorem En.zBA (v:α)(t:En α):En.set .e v t= .leaf v:=rfl
theorem En.XY (q:Pa)(v:α)(t:En α):En.set (.o q) v t=match t with| .leaf w=> .node (En.set q v (.leaf w)) (.leaf w)| .node l r=> .node (En.set q v l) r:=by
 cases t with
 |leaf w=>show En.eU q v (.leaf w) (fun l=>En.node l (.leaf w))=_;rw[En.aV]
 |node l r=>show En.eU q v l (fun l=>En.node l r)=_;rw[En.aV]
theorem En.XO (q:Pa)(v:α)(t:En α):En.set (.i q) v t=match t with| .leaf w=> .node (.leaf w) (En.set q v (.leaf w))| .node l r=> .node l (En.set q v r):=by
 cases t with
 |leaf w=>show En.eU q v (.leaf w) (fun r=>En.node (.leaf w) r)=_;rw[En.aV]
 |node l r=>show En.eU q v r (fun r=>En.node l r)=_;rw[En.aV]
theorem En.bU (q:Pa)(v:α):En.get q (.leaf v)=v:=by cases q<;>rfl
theorem En.wG:∀(q p:Pa) (v:α) (t:En α),p.len=q.len->En.get p (En.set q v t)=if p=q then v else En.get p t
 | .e,.e,v,t,_=>by simp[En.zBA,En.bU]
 | .o q,.o p,v,t,h=>by
   have h:p.len=q.len:=by simpa[Pa.len]using h
   rw[En.XY];cases t with
   |leaf w=>simp only[En.BS,En.wG q p v _ h,Pa.o.injEq,En.bU]
   |node l r=>simp only[En.BS,En.wG q p v _ h,Pa.o.injEq]
 | .i q,.i p,v,t,h=>by
   have h:p.len=q.len:=by simpa[Pa.len]using h
   rw[En.XO];cases t with
   |leaf w=>simp only[En.Aq,En.wG q p v _ h,Pa.i.injEq,En.bU]
   |node l r=>simp only[En.Aq,En.wG q p v _ h,Pa.i.injEq]
 | .o q,.i p,v,t,_=>by
   rw[En.XY];cases t with
   |leaf w=>simp[En.Aq,En.bU]
   |node l r=>simp[En.Aq]
 | .i q,.o p,v,t,_=>by
   rw[En.XO];cases t with
   |leaf w=>simp[En.BS,En.bU]
   |node l r=>simp[En.BS]
 | .e,.o p,_,_,h=>by simp[Pa.len]at h
 | .e,.i p,_,_,h=>by simp[Pa.len]at h
 | .o q,.e,_,_,h=>by simp[Pa.len]at h
 | .i q,.e,_,_,h=>by simp[Pa.len]at h
theorem En.bT {d a b:Nat}(ha:a<2^d)(hb:b<2^d)(v:α)(t:En α):En.get (Pa.of d a) (En.set (Pa.of d b) v t)=if a=b then v else En.get (Pa.of d a) t:=by
 rw[En.wG _ _ _ _ (by rw[Pa.Ug,Pa.Ug])];by_cases h:a=b
 .subst h;simp
 .rw[if_neg h,if_neg fun g=>h (Pa.Yu d ha hb g)]
end trees
theorem dR {β:Type}(n:Nat)(k:Nat->β):dP n k=k n:=by cases n<;>rfl
theorem QW {β:Type}(n:Int)(k:Int->β):U7 n k=k n:=by
 cases n with
 |ofNat a=>show dP a (fun a=>k (.ofNat a))=_;rw[dR]
 |negSucc a=>show dP a (fun a=>k (.negSucc a))=_;rw[dR]
theorem force_eq {β:Type}(v:T)(k:T->β):force v k=k v:=by
 cases v<;>simp only[force,dR,QW]
 case bool b=>cases b<;>rfl
theorem aH {a b:Nat}:bn a b=true<->a<=b:=by rw[Nat.ble_eq]
structure Inf where
 r:Nat
 cap:Nat
 gh:Array MapEntry
 clock:Nat
 w:Nat
abbrev Io:=Nat->Option Inf
mutual
noncomputable def VR (ι:Io):T->Value->Prop
 | .bool b,v=>v= .bool b
 | .int k n,v=>v= .int k n
 | .str s,v=>v= .string ⟨⟨s⟩⟩
 | .rZ,v=>v= .pointer none
 | .ptr b o,v=>∃x,ι b=some x/\v= .pointer (some ⟨x.r,o,none⟩)
 | .dh,v=>v= .slice none 0 0
 | .slice b o n c,v=>∃x,ι b=some x/\v= .slice (some ⟨x.r,o,none⟩) n c
 | .own b n,v=>∃x,ι b=some x/\v= .slice (some ⟨x.r,0,none⟩) n x.cap/\n<=x.cap
 | .sub b o n,v=>∃x c,ι b=some x/\v= .slice (some ⟨x.r,o,none⟩) n c/\n<=c
 | .empty,v=>∃a c,v= .slice (some a) 0 c
 | .pY,v=>v= .map none
 | .map b,v=>∃x,ι b=some x/\v= .map (some x.r)
 | .func f a b,v=>match f with
   | .yield l=>a=[]/\b=[]/\∃x,ι l=some x/\v= .func (.yield x.r) #[] #[]
   |f=>∃c d,v= .func f c d/\VL ι a c.toList/\VL ι b d.toList
 | .nC,v=>v= .nilFunc
 | .iM,v=>v= .nilIface
 | .agg cs,v=>∃vs,v= .agg vs/\VL ι cs vs.toList
 | .tup cs,v=>∃vs,v= .tuple vs/\VL ι cs vs.toList
 | .any,_=>True
 | .res k m r lo hi,v=>∃z,v= .int k z/\z % m=r/\lo<=z/\z<=hi
noncomputable def VL (ι:Io):List T->List Value->Prop
 |[],vs=>vs=[]
 |c::cs,vs=>∃v rest,vs=v::rest/\VR ι c v/\VL ι cs rest
end
noncomputable def Sub (ι ι':Io):Prop:=∀b x,ι b=some x->ι' b=some x
mutual
theorem VR.mono {ι ι':Io}(hs:Sub ι ι'):∀(t:T) {v:Value},VR ι t v->VR ι' t v
 | .bool b,v,h=>by simpa only[VR]using h
 | .int k n,v,h=>by simpa only[VR]using h
 | .str s,v,h=>by simpa only[VR]using h
 | .rZ,v,h=>by simpa only[VR]using h
 | .ptr b o,v,h=>by simp only[VR]at *;obtain⟨x,g,j⟩:=h;exact⟨x,hs _ _ g,j⟩
 | .dh,v,h=>by simpa only[VR]using h
 | .slice b o n c,v,h=>by simp only[VR]at *;obtain⟨x,g,j⟩:=h;exact⟨x,hs _ _ g,j⟩
 | .own b n,v,h=>by simp only[VR]at *;obtain⟨x,g,j⟩:=h;exact⟨x,hs _ _ g,j⟩
 | .sub b o n,v,h=>by simp only[VR]at *;obtain⟨x,c,g,j⟩:=h;exact⟨x,c,hs _ _ g,j⟩
 | .empty,v,h=>by simpa only[VR]using h
 | .pY,v,h=>by simpa only[VR]using h
 | .map b,v,h=>by simp only[VR]at *;obtain⟨x,g,j⟩:=h;exact⟨x,hs _ _ g,j⟩
 | .func f a b,v,h=>by
   simp only[VR]at *;split at h
   .obtain⟨g,j,x,q,A⟩:=h;exact⟨g,j,x,hs _ _ q,A⟩
   .obtain⟨c,d,g,j,q⟩:=h;exact⟨c,d,g,VL.mono hs a j,VL.mono hs b q⟩
 | .nC,v,h=>by simpa only[VR]using h
 | .iM,v,h=>by simpa only[VR]using h
 | .agg cs,v,h=>by simp only[VR]at *;obtain⟨vs,g,j⟩:=h;exact⟨vs,g,VL.mono hs cs j⟩
 | .tup cs,v,h=>by simp only[VR]at *;obtain⟨vs,g,j⟩:=h;exact⟨vs,g,VL.mono hs cs j⟩
 | .any,v,h=>by simp only[VR]
 | .res k m r lo hi,v,h=>by simpa only[VR]using h
theorem VL.mono {ι ι':Io}(hs:Sub ι ι'):∀(ts:List T) {vs:List Value},VL ι ts vs->VL ι' ts vs
 |[],vs,h=>by simpa only[VL]using h
 |c::cs,vs,h=>by
  simp only[VL]at *;obtain⟨v,a,d,g,j⟩:=h;exact⟨v,a,d,VR.mono hs c g,VL.mono hs cs j⟩
end
theorem VL.length {ι:Io}:∀{ts:List T} {vs:List Value},VL ι ts vs->vs.length=ts.length
 |[],vs,h=>by simp only[VL]at h;simp[h]
 |c::cs,vs,h=>by
  simp only[VL]at h;obtain⟨v,a,d,j,g⟩:=h;simp[d,VL.length g]
theorem VL.append {ι:Io}:∀{ts us:List T} {vs ws:List Value},VL ι ts vs->VL ι us ws->VL ι (ts++us) (vs++ws)
 |[],us,vs,ws,h,k=>by simp only[VL]at h;simpa[h]using k
 |c::cs,us,vs,ws,h,k=>by
  simp only[VL]at h;obtain⟨v,a,rfl,d,g⟩:=h;simp only[qp,VL];exact⟨v,a++ws,rfl,d,VL.append g k⟩
theorem VL.get {ι:Io}:∀{ts:List T} {vs:List Value} {i:Nat} {t:T},VL ι ts vs->ts[i]? =some t->∃v,vs[i]? =some v/\VR ι t v
 |[],vs,i,t,h,k=>by simp at k
 |c::cs,vs,0,t,h,k=>by
  simp only[VL]at h;obtain⟨v,a,rfl,d,g⟩:=h;simp at k;subst k;exact⟨v,rfl,d⟩
 |c::cs,vs,i+1,t,h,k=>by
  simp only[VL]at h;obtain⟨v,a,rfl,d,g⟩:=h;simp at k;simpa using VL.get g k
theorem VL.take {ι:Io}:∀{ts:List T} {vs:List Value} (n:Nat),VL ι ts vs->VL ι (ts.take n) (vs.take n)
 |[],vs,n,h=>by simp only[VL]at h;simp[h,VL]
 |c::cs,vs,0,h=>by simp[VL]
 |c::cs,vs,n+1,h=>by
  simp only[VL]at h;obtain⟨v,a,rfl,d,g⟩:=h;simp only[kY,VL];exact⟨v,_,rfl,d,VL.take n g⟩
theorem VL.drop {ι:Io}:∀{ts:List T} {vs:List Value} (n:Nat),VL ι ts vs->VL ι (ts.drop n) (vs.drop n)
 |[],vs,n,h=>by simp only[VL]at h;simp[h,VL]
 |c::cs,vs,0,h=>by simpa using h
 |c::cs,vs,n+1,h=>by
  simp only[VL]at h;obtain⟨v,a,rfl,g,d⟩:=h;simpa using VL.drop n d
theorem VL.set {ι:Io}:∀{ts:List T} {vs:List Value} {i:Nat} {t:T} {v:Value},VL ι ts vs->VR ι t v->VL ι (ts.set i t) (vs.set i v)
 |[],vs,i,t,v,h,k=>by simp only[VL]at h;simp[h,VL]
 |c::cs,vs,0,t,v,h,k=>by
  simp only[VL]at h;obtain⟨u,a,rfl,g,d⟩:=h;simp only[List.set_cons_zero,VL];exact⟨v,a,rfl,k,d⟩
 |c::cs,vs,i+1,t,v,h,k=>by
  simp only[VL]at h;obtain⟨u,a,rfl,g,d⟩:=h;simp only[List.set_cons_succ,VL];exact⟨u,_,rfl,g,VL.set d k⟩
end Go.Run
namespace Go.Run
open Go Go.Eng
noncomputable def ER (ι:Io)(x:T×T×Nat)(e:MapEntry):Prop:=VR ι x.1 e.key/\VR ι x.2.1 e.val/\x.2.2=e.born
noncomputable def EL (ι:Io):List (T×T×Nat)->List MapEntry->Prop
 |[],l=>l=[]
 |x::xs,l=>∃e r,l=e::r/\ER ι x e/\EL ι xs r
theorem EL.mono {ι ι':Io}(hs:Sub ι ι'):∀{xs:List (T×T×Nat)} {l:List MapEntry},EL ι xs l->EL ι' xs l
 |[],l,h=>h
 |x::xs,l,⟨e,r,h1,h2,h3⟩=>⟨e,r,h1,⟨VR.mono hs _ h2.1,VR.mono hs _ h2.2.1,h2.2.2⟩,EL.mono hs h3⟩
structure RE (ι:Io)(m:Fm)(e:E)(er:Env):Prop where
 len:er.length=m.n
 fit:m.n<=2^m.dp
 get:∀i,i<m.n->VR ι (En.get (Pa.of m.dp i) e) (er.getD i undef)
theorem RE.mono {ι ι':Io}(hs:Sub ι ι'){m:Fm}{e:E}{er:Env}(h:RE ι m e er):RE ι' m e er:=⟨h.len,h.fit,fun i hi=>VR.mono hs _ (h.get i hi)⟩
noncomputable def jZ (es:List (T×T×Nat))(clock:Nat):Prop:=(es.map (·.2.2)).Pairwise (·<·)/\∀x∈es,x.2.2<clock
noncomputable def Xa (es es':List (T×T×Nat))(j j':Nat):Prop:=(∃y,es[j]? =some y/\es'[j']? =some y)/\(es'.take j').Sublist (es.take j)
noncomputable def VO.am:VO->Bool| .tZ _ _ _=>true|_=>false
noncomputable def bZ (s:S)(b:Nat):Bool:=match s.at b with|some o=>o.am|none=>false
noncomputable def Lg (since:Nat)(seen:List Nat)(arr:Array Nat):Prop:=(∀w,w<since->arr.contains w=seen.any fun b=>aX b w)/\∀w,seen.getLast? =some w->w<since->arr.back? =some w
noncomputable def OR (P:Program)(ι:Io)(x:Inf):VO->Obj->Prop
 | .row cs ct tail,o=>∃cur,o= .cells cur ct (0,0)/\cs.length<=cur.size/\VL ι cs (cur.toList.take cs.length)/\(tail=false->cur.size=cs.length)/\
  (tail=true->0<szT P ct/\cur.size=x.cap*szT P ct/\x.cap<=maxLen)
 | .ro cs ct,o=>∃cur fr,o= .cells cur ct fr/\cs.length<=cur.size/\VL ι cs (cur.toList.take cs.length)
 | .map es clock,o=>∃ents,o= .map ents clock/\EL ι es ents.toList/\jZ es clock
 | .pO s pos,o=>o= .stringIter ⟨⟨s⟩⟩ pos
 | .iU mp since seen last,o=>∃y,ι mp=some y/\o= .mapIter (some y.r) since seen.toArray last
 | .loop st pend dp n tm pa asg bd df,o=>∃fn tr y,ι df=some y/\o= .loop {state:=st,pending:=pend,fn,tmps:=tr,params:=pa.toArray,assign:=asg,body:=bd,defers:=y.r}/\RE ι ⟨dp,n⟩ tm tr.toList
 | .uf true,o=>o= .deferred (some [])
 | .uf false,o=>o= .deferred none
 | .tZ es j del,o=>∃es' j' e,EL ι es' x.gh.toList/\jZ es' x.clock/\Xa es es' j j'/\x.gh[j']? =some e/\e.born=x.w/\o= .map (if del then x.gh.eraseIdxIfInBounds j' else x.gh) x.clock
 | .bag els ct,o=>∃(els':List (List T)) (cur:Array Value),List.Perm els' els/\o= .cells cur ct (0,0)/\els'.flatten.length<=cur.size/\VL ι els'.flatten (cur.toList.take els'.flatten.length)/\0<szT P ct/\cur.size=x.cap*szT P ct/\x.cap<=maxLen
 | .iB mp since w last,o=>∃y arr,ι mp=some y/\o= .mapIter (some y.r) since arr last/\arr.back? =some w
 | .iG mp since seen last,o=>∃y arr c,ι mp=some y/\o= .mapIter (some y.r) since arr c/\Lg since seen arr/\since<=c/\(since<=last->c=last)
 | .BL mp since k bs,o=>∃y arr c,ι mp=some y/\o= .mapIter (some y.r) since arr c/\since<=c/\∃sn:List Nat,sn.Nodup/\sn.length=k/\(∀w∈sn,w∈bs)/\∀w,w<since->(arr.contains w=true<->w∈sn)
 | .pick mp,o=>∃y since seen,ι mp=some y/\o= .mapIter (some y.r) since seen y.clock/\seen.back? =some y.w
theorem OR.mono {P:Program}{ι ι':Io}(hs:Sub ι ι'){x:Inf}:∀{o:VO} {ob:Obj},OR P ι x o ob->OR P ι' x o ob
 | .row cs ct tail,ob,⟨cur,h1,h2,h3,h4⟩=>⟨cur,h1,h2,VL.mono hs _ h3,h4⟩
 | .ro cs ct,ob,⟨cur,fr,h1,h2,h3⟩=>⟨cur,fr,h1,h2,VL.mono hs _ h3⟩
 | .map es clock,ob,⟨ents,h1,h2,h3⟩=>⟨ents,h1,EL.mono hs h2,h3⟩
 | .pO s pos,ob,h=>h
 | .iU mp since seen last,ob,⟨y,h1,h2⟩=>⟨y,hs _ _ h1,h2⟩
 | .loop st pend dp n tm pa asg bd df,ob,⟨fn,tr,y,h1,h2,h3⟩=>⟨fn,tr,y,hs _ _ h1,h2,h3.mono hs⟩
 | .uf true,ob,h=>h
 | .uf false,ob,h=>h
 | .tZ es j del,ob,⟨es',j',e,h0,h1⟩=>⟨es',j',e,EL.mono hs h0,h1⟩
 | .bag els ct,ob,⟨els',cur,h1,h2,h3,h4,h5⟩=>⟨els',cur,h1,h2,h3,VL.mono hs _ h4,h5⟩
 | .iB mp since w last,ob,⟨y,arr,h1,h2⟩=>⟨y,arr,hs _ _ h1,h2⟩
 | .iG mp since seen last,ob,⟨y,arr,c,h1,h2⟩=>⟨y,arr,c,hs _ _ h1,h2⟩
 | .BL mp since k bs,ob,⟨y,arr,c,h1,h2⟩=>⟨y,arr,c,hs _ _ h1,h2⟩
 | .pick mp,ob,⟨y,since,seen,h1,h2⟩=>⟨y,since,seen,hs _ _ h1,h2⟩
structure Sim (P:Program)(ι:Io)(s:S)(h:Heap):Prop where
 fresh:∀b x,ι b=some x->b<s.nx/\x.r<h.size
 inj:∀b c x y,s.at b≠none->s.at c≠none->ι b=some x->ι c=some y->x.r=y.r->b=c
 obj:∀b o,s.at b=some o->∃x ob,ι b=some x/\h[x.r]? =some ob/\OR P ι x o ob
structure Ste (ι:Io)(s:S)(h:Heap)(ι':Io)(s':S)(h':Heap):Prop where
 sub:Sub ι ι'
 nx:s.nx<=s'.nx
 low:s'.low<=s.low
 size:h.size<=h'.size
 dead:∀b,b<s.nx->s.at b=none->s'.at b=none
 grow:∀b x,ι' b=some x->ι b=some x\/(s.nx<=b/\(h.size<=x.r\/∃c y,ι c=some y/\y.r=x.r/\s'.low<=c/\s.at c≠none))
 am:∀b x,ι b=some x->bZ s' b=true->bZ s b=true
 old:∀r,r<h.size->(∀b x,ι b=some x->x.r=r->s.at b=none\/(b<s'.low/\bZ s b=false))->h'[r]? =h[r]?
theorem Ste.refl (ι:Io)(s:S)(h:Heap):Ste ι s h ι s h:=⟨fun _ _ h=>h,bi _,bi _,bi _,fun _ _ h=>h,fun _ _ h=> .inl h,fun _ _ _ h=>h,fun _ _ _=>rfl⟩
theorem Ste.trans {ι ι1 ι2:Io}{s s1 s2:S}{h h1 h2:Heap}(hf:∀b x,ι b=some x->b<s.nx/\x.r<h.size)(a:Ste ι s h ι1 s1 h1)(b:Ste ι1 s1 h1 ι2 s2 h2):Ste ι s h ι2 s2 h2:=by
 have H:∀c y,ι c=some y->s1.at c≠none->s.at c≠none:=fun c y g h1 h2=>h1 (a.dead c (hf c y g).1 h2)
 refine⟨fun c x g=>b.sub _ _ (a.sub _ _ g),fw a.nx b.nx,fw b.low a.low,fw a.size b.size,fun c g j=>b.dead c (bv g a.nx) (a.dead c g j),?_,fun c x g h=>a.am c x g (b.am c x (a.sub _ _ g) h),?_⟩
 .intro c x g;rcases b.grow c x g with g|⟨N,g⟩
  .rcases a.grow c x g with g|⟨N,g⟩
   .exact .inl g
   .refine .inr ⟨N,?_⟩;rcases g with g|⟨d,y,q,A,I,B⟩
    .exact .inl g
    .exact .inr ⟨d,y,q,A,fw b.low I,B⟩
  .refine .inr ⟨fw a.nx N,?_⟩;rcases g with g|⟨d,y,q,A,I,B⟩
   .exact .inl (fw a.size g)
   .rcases a.grow d y q with C|⟨_,C⟩
    .exact .inr ⟨d,y,C,A,I,H d y C B⟩
    .rcases C with C|⟨Q,V,B,G,R,U⟩
     .exact .inl (A▸C)
     .exact .inr ⟨Q,V,B,G.trans A,fw b.low R,U⟩
 .intro r O L;have h1:=a.old r O fun c x g J=>by
   rcases L c x g J with j|⟨j,q⟩
   .exact .inl j
   .exact .inr ⟨bv j b.low,q⟩
  rw[b.old r (bv O a.size) ?_,h1];intro c x g J;rcases a.grow c x g with g|⟨_,g⟩
  .rcases L c x g J with j|⟨j,q⟩
   .exact .inl (a.dead c (hf c x g).1 j)
   .refine .inr ⟨j,?_⟩;cases ha:bZ s1 c with
    |false=>rfl
    |true=>have:=a.am c x g ha;rw[q]at this;cases this
  .rcases g with g|⟨d,y,q,A,I,B⟩
   .omega
   .rcases L d y q (A.trans J)with G|⟨G,_⟩
    .exact absurd G B
    .exact absurd G (by have:=b.low;omega)
end Go.Run
namespace Go.Run
open Go Go.Eng
section steps
variable {P:Program}{ι:Io}{s:S}{h h':Heap}
section
variable {b:Nat}{o:VO}{x:Inf}
theorem bO (s:S)(b c:Nat)(o:Option VO)(nx low:Nat):(bG s b o nx low).at c=if b<=16383/\c=b then o else s.at c:=by
 unfold bG S.at;rw[aJ,aJ,aJ,En.aV];by_cases g:b<=16383
 .have a:bn b 16383=true:=aH.2 g;simp only[a,if_true,g,true_and];by_cases q:c<=16383
  .have d:bn c 16383=true:=aH.2 q;simp only[d,if_true];exact En.bT (by omega) (by omega) o s.V
  .have d:bn c 16383=false:=by cases h:bn c 16383 with|false=>rfl|true=>exact absurd (aH.1 h) q
   have j:¬c=b:=by omega
   simp[d,j]
 .have a:bn b 16383=false:=by cases h:bn b 16383 with|false=>rfl|true=>exact absurd (aH.1 h) g
  simp[a,g]
noncomputable def oam (o:Option VO):Bool:=match o with|some o=>o.am|none=>false
theorem qY (s:S)(b c:Nat)(o:Option VO)(nx low:Nat):bZ (bG s b o nx low) c=if b<=16383/\c=b then oam o else bZ s c:=by
 unfold bZ;rw[bO];by_cases a:b<=16383/\c=b
 .rw[if_pos a,if_pos a];rfl
 .rw[if_neg a,if_neg a]
theorem fq (s:S)(b:Nat)(o:Option VO)(nx low:Nat):(bG s b o nx low).nx=nx:=by
 unfold bG;rw[aJ,En.aV];split<;>rfl
theorem iR (s:S)(b:Nat)(o:Option VO)(nx low:Nat):(bG s b o nx low).low=low:=by
 unfold bG;rw[aJ,En.aV];split<;>rfl
theorem iI (a b:Nat):dz a b=min a b:=by
 unfold dz;by_cases h:a<=b
 .rw[aH.2 h];show a=min a b;omega
 .cases hb:bn a b with
  |true=>exact absurd (aH.1 hb) h
  |false=>simp;omega
theorem zX (s:S)(o:VO):fM s o=bG s s.nx (some o) (s.nx+1) s.low:=by unfold fM;rw[dR,dR]
theorem Nk {s:S}(hb:s.at b=some o):b<=16383:=by
 unfold S.at at hb;rw[aJ]at hb;split at hb
 .rename_i h;exact aH.1 h
 .cases hb
noncomputable def Io.put (ι:Io)(b:Nat)(x:Inf):Io:=fun c=>if c=b then some x else ι c
theorem Io.gU {ι:Io}(hb:ι b=none):Sub ι (ι.put b x):=by
 intro c y a;unfold Io.put;split
 .rename_i h;subst h;rw[hb]at a;cases a
 .exact a
theorem Io.dm {ι:Io}:(ι.put b x) b=some x:=by simp[Io.put]
theorem Sim.pI (H:Sim P ι s h)(hb:s.nx<=b):ι b=none:=by
 cases hx:ι b with
 |none=>rfl
 |some x=>have:=(H.fresh b x hx).1;omega
theorem jQ (H:Sim P ι s h){ob:Obj}(hr:x.r=h.size)(ho:OR P (ι.put s.nx x) x o ob):
 Sim P (ι.put s.nx x) (fM s o) (h.push ob)/\Ste ι s h (ι.put s.nx x) (fM s o) (h.push ob):=by
 have R:=H.pI (bi s.nx);have g:=Io.gU (x:=x) R;rw[zX];refine⟨⟨?_,?_,?_⟩,⟨g,by rw[fq];omega,by rw[iR];exact bi _,by simp,fun b d L=>(by rw[bO,if_neg (by omega)];exact L),?_,?_,?_⟩⟩
 .intro b y a;rw[fq];unfold Io.put at a;split at a
  .rename_i d;subst d;cases a;simp[hr]
  .have:=H.fresh b y a;simp;omega
 .intro b c y z d B a A C;rw[bO]at d B;unfold Io.put at a A;by_cases j:b=s.nx<;>by_cases q:c=s.nx
  .omega
  .simp only[j,if_true,q,if_false,Option.some.injEq]at a A;have:=(H.fresh c z A).2;subst a;omega
  .simp only[j,if_false,q,if_true,Option.some.injEq]at a A;have:=(H.fresh b y a).2;subst A;omega
  .simp only[j,q,if_false]at a A;simp only[j,and_false,if_false]at d;simp only[q,and_false,if_false]at B;exact H.inj b c y z d B a A C
 .intro b V d;rw[bO]at d;split at d
  .rename_i Q;obtain⟨_,rfl⟩:=Q;cases d;exact⟨x,ob,Io.dm,by rw[hr];simp,ho⟩
  .obtain⟨y,G,I,N,O⟩:=H.obj b V d;refine⟨y,G,g _ _ I,?_,O.mono g⟩;rw[iq,if_neg (by have:=(H.fresh b y I).2;omega)];exact N
 .intro b y a;unfold Io.put at a;split at a
  .rename_i d;subst d;cases a;exact .inr ⟨bi _,.inl (by omega)⟩
  .exact .inl a
 .intro b y a J;have:=(H.fresh b y a).1;rw[qY,if_neg (by omega)]at J;exact J
 .intro r U _;rw[iq,if_neg (by omega)]
theorem kg (H:Sim P ι s h){o0:VO}{ob:Obj}(h0:s.at b=some o0)(hx:ι b=some x)(ho:OR P ι x o ob)(u:Upd h h' x.r)(hg:h'[x.r]? =some ob){low:Nat}(hl:low<=s.low)(hl':low<=b\/o0.am=true)(ha:o.am=true->o0.am=true):
 Sim P ι (bG s b (some o) s.nx low) h'/\Ste ι s h ι (bG s b (some o) s.nx low) h':=by
 have G:=Nk h0;refine⟨⟨?_,?_,?_⟩,⟨fun _ _ h=>h,by rw[fq];exact bi _,by rw[iR];exact hl,by rw[u.size];exact bi _,fun c a A=>(by
  rw[bO];split
  .rename_i g;rw[g.2,h0]at A;cases A
  .exact A),fun c y C=> .inl C,?_,?_⟩⟩
 .intro c y C;rw[fq,u.size];exact H.fresh c y C
 .intro c d y z a U C V N;have j:∀c,(bG s b (some o) s.nx low).at c≠none->s.at c≠none:=by
   intro c a;rw[bO]at a;split at a
   .rename_i g;rw[g.2,h0];simp
   .exact a
  exact H.inj c d y z (j c a) (j d U) C V N
 .intro c W a;rw[bO]at a;split at a
  .rename_i g;obtain⟨_,rfl⟩:=g;cases a;exact⟨x,ob,hx,hg,ho⟩
  .rename_i g;have B:c≠b:=fun B=>g ⟨G,B⟩
   obtain⟨y,O,Q,q,R⟩:=H.obj c W a;refine⟨y,O,Q,?_,R⟩;exact u.get q fun L=>B (H.inj c b y x (by rw[a];simp) (by rw[h0];simp) Q hx L)
 .intro c y C a;rw[qY]at a;split at a
  .rename_i g;unfold bZ;rw[g.2,h0];exact ha a
  .exact a
 .intro r Z J;by_cases I:r=x.r
  .have:=J b x hx I.symm;rw[iR,h0]at this;rcases this with this|this
   .cases this
   rcases hl' with hl'|hl'
   .omega
   .have q:=this.2;unfold bZ at q;rw[h0]at q;simp only at q;rw[hl']at q;cases q
  .exact u.old r I
theorem Lh (H:Sim P ι s h)(b:Nat){low:Nat}(hl:low<=s.low):Sim P ι (bG s b none s.nx low) h/\Ste ι s h ι (bG s b none s.nx low) h:=by
 refine⟨⟨?_,?_,?_⟩,⟨fun _ _ h=>h,by rw[fq];exact bi _,by rw[iR];exact hl,bi _,fun c a q=>(by
  rw[bO];split
  .rfl
  .exact q),fun c y g=> .inl g,?_,fun _ _ _=>rfl⟩⟩
 .intro c y g;rw[fq];exact H.fresh c y g
 .intro c d y z a A g I B;rw[bO]at a A;have C:s.at c≠none:=by intro j;rw[j]at a;simp at a
  have G:s.at d≠none:=by intro j;rw[j]at A;simp at A
  exact H.inj c d y z C G g I B
 .intro c J a;rw[bO]at a;split at a
  .cases a
  .exact H.obj c J a
 .intro c y g a;rw[qY]at a;split at a
  .cases a
  .exact a
end
end steps
end Go.Run
namespace Go.Run
open Go Go.Eng
noncomputable def Xm (P:Program)(g:FuncId)(k:TypeId):Prop:=
 ∀(h:Heap) (r:Nat) (c d:Value),h[r]? =some (.cells #[c,d] k (0,0))->c= .pointer none\/c= .pointer (some ⟨r,0,none⟩)->
  ak P g #[.pointer (some ⟨r,0,none⟩)] h (fun v h'=>v= .tuple #[]/\h'=h.setIfInBounds r (.cells #[.pointer (some ⟨r,0,none⟩),d] k (0,0)))
noncomputable def TJ (P:Program)(g:FuncId):X->Prop
 | .no=>True
 | .mnz el=>∃ps t,P.underlying t=some (.slice el)/\∀(args:Array Value) (w:World),(callFunc g args).run P w=((Extern.BytealgMakeNoZero.makeNoZero ps #[t] args).run P w).andThen fun v w'=> .ok (.value v) w'
 | .cnt=>∀(args:Array Value) (w:World),(callFunc g args).run P w=((Extern.BytealgCount.count args).run P w).andThen fun v w'=> .ok (.value v) w'
 | .idx=>∀(args:Array Value) (w:World),(callFunc g args).run P w=((Extern.BytealgIndexByte.indexByte args).run P w).andThen fun v w'=> .ok (.value v) w'
 | .cpy k=>Xm P g k
 | .tru=>∀h:Heap,ak P g #[] h (fun v h'=>v= .bool true/\Ext h h')
structure Ok (P:Program)(p:Pr):Prop where
 ext:∀g,TJ P g (p.ext g)
 ty:∀t ti,p.ty t=some ti->Wh P t=some {ti with fl:=[]}/\(ti.fl=[]\/flT P t=ti.fl)
 fn:∀f fi,p.fn f=some fi->NA P f=some fi
 mixed:P.follows .mixedOrders=true
section tables
variable {P:Program}{p:Pr}{ι:Io}
theorem Uh {v:Value}{t:T}(h:toT v=some t):VR ι t v:=by
 unfold toT at h;split at h
 .cases h;simp only[VR]
 .cases h;simp only[VR]
 .cases h;simp only[VR]
 .cases h;simp only[VR]
 .cases h;simp only[VR]
 .cases h;simp only[VR]
 .cases h;simp only[VR]
 .cases h;simp only[VR]
 .rename_i g a b;split at h
  .rename_i q A;cases h;have d:a= #[]:=by apply bz.1;simpa using q
   have j:b= #[]:=by apply bz.1;simpa using A
   subst d j;simp only[VR];exact⟨_,_,rfl,by simp[VL],by simp[VL]⟩
  .cases h
 .cases h
theorem F7:∀{vs:List Value} {ts:List T},vs.mapM toT=some ts->VL ι ts vs
 |[],ts,h=>by simp at h;subst h;simp[VL]
 |v::vs,ts,h=>by
  rw[List.mapM_cons]at h;cases h1:toT v with
  |none=>simp[h1]at h
  |some t=>
   cases h2:vs.mapM toT with
   |none=>simp[h1,h2]at h
   |some r=>
    simp[h1,h2]at h;subst h;simp only[VL];exact⟨v,vs,rfl,Uh h1,F7 h2⟩
theorem NT {v:Value}{t:T}(h:Vf v=some t):VR ι t v:=by
 unfold Vf at h;split at h
 .rename_i cs;obtain⟨d,a,rfl⟩:=kS.1 h;simp only[VR];exact⟨cs,rfl,F7 a⟩
 .rename_i cs;obtain⟨d,a,rfl⟩:=kS.1 h;simp only[VR];exact⟨cs,rfl,F7 a⟩
 .exact Uh h
structure TF (P:Program)(t:TypeId)(ti:TI):Prop where
 size:szT P t=ti.size
 info:∃i,P.info? t=some i/\i.size=ti.size/\i.bytes=ti.bytes
 zero:∃z,dJ P t=some z/\∀ι,VR ι ti.zero z
 und:∃d,P.underlying t=some d
 d:ti.d=mkD P t
 okf:∀d,P.underlying t=some d->JD P t d=true
 fl:ti.fl=[]\/flT P t=ti.fl
theorem TF.isSome {t:TypeId}{ti:TI}(H:TF P t ti):(P.info? t).isSome=true:=by obtain⟨i,h,_⟩:=H.info;simp[h]
theorem Ok.tf (H:Ok P p){t:TypeId}{ti:TI}(h:p.ty t=some ti):TF P t ti:=by
 obtain⟨h,g⟩:=H.ty t ti h;obtain⟨L,G,y0,J,f0⟩:=ti;unfold Wh at h;split at h
 .rename_i i d hi q;split at h
  case h_2=>cases h
  .rename_i z C j;cases h;obtain⟨v,A,B⟩:=Option.bind_eq_some_iff.1 C;exact⟨by simp[szT,hi],⟨i,hi,rfl,rfl⟩,⟨v,by simp[dJ,hi,A],fun ι=>NT B⟩,⟨d,q⟩,rfl,fun I a=>by rw[q]at a;cases a;exact j,g⟩
 .cases h
theorem TF.agg {t:TypeId}{ti:TI}(H:TF P t ti):zF P t=some (yG ti.d):=by
 obtain⟨d,a⟩:=H.und;rw[H.d];unfold zF mkD;rw[a];cases d<;>rfl
end tables
section ops
variable {P:Program}{p:Pr}{ι:Io}{s:S}{h:Heap}{m:Fm}{e:E}{er:Env}
noncomputable def Post (P:Program)(ι:Io)(s:S)(h:Heap)(t:T)(s':S):Value->Heap->Prop:=fun v h'=>∃ι',Ste ι s h ι' s' h'/\Sim P ι' s' h'/\VR ι' t v
theorem Post.pure (H:Sim P ι s h){t:T}{v:Value}(hv:VR ι t v):Post P ι s h t s v h:=⟨ι,Ste.refl ..,H,hv⟩
theorem iY (re:RE ι m e er)(t:Nat):VR ι (bu m e t) (er.getD t undef):=by
 unfold bu;rw[aJ];split
 .rename_i a;exact re.get t (aH.1 a)
 .rename_i a;have:er.length<=t:=by
   rw[re.len];rcases Nat.lt_or_ge t m.n with h|h
   .exact absurd (aH.2 h) a
   .exact h
  simp[fB,List.getD,List.getElem?_eq_none this,VR,undef,VL]
theorem ai (re:RE ι m e er){x:Operand}{t:T}(hx:opd m e x=some t):VR ι t (ev er x):=by
 cases x with
 |tmp i=>simp only[opd,Option.some.injEq]at hx;subst hx;exact iY re i
 |const v=>exact NT hx
 |func f=>simp only[opd,Option.some.injEq]at hx;subst hx;simp only[VR,ev];exact⟨_,_,rfl,by simp[VL],by simp[VL]⟩
 |global g=>cases hx
theorem fD {s s':S}{v:Option T}{t:T}(hp:pu s v=some (t,s')):v=some t/\s'=s:=by
 unfold pu at hp;cases v with
 |none=>cases hp
 |some v=>have:some (v,s)=some (t,s'):=hp;cases this;exact⟨rfl,rfl⟩
theorem row_of (H:Sim P ι s h){b:Nat}{cs:List T}(hb:rowAt s b=some cs){x:Inf}(hx:ι b=some x):
 ∃ct fr cur,h[x.r]? =some (.cells cur ct fr)/\cs.length<=cur.size/\VL ι cs (cur.toList.take cs.length):=by
 unfold rowAt at hb;split at hb
 .rename_i d ct G B;cases hb;obtain⟨y,C,a,g,j⟩:=H.obj b _ B;rw[hx]at a;cases a;obtain⟨cur,rfl,q,A,_⟩:=j;exact⟨ct,_,cur,g,q,A⟩
 .rename_i d ct B;cases hb;obtain⟨y,C,a,g,j⟩:=H.obj b _ B;rw[hx]at a;cases a;obtain⟨cur,fr,rfl,q,A⟩:=j;exact⟨ct,fr,cur,g,q,A⟩
 .cases hb
theorem VL.sub {cs:List T}{cur:List Value}(H:VL ι cs (cur.take cs.length)){o n:Nat}(hn:o+n<=cs.length):VL ι ((cs.drop o).take n) ((cur.drop o).take n):=by
 have:=(H.drop o).take n;rwa[zB,lX,tT (by omega)]at this
theorem Gj (ok:Ok P p)(H:Sim P ι s h){t:TypeId}{x v:T}{xv:Value}(hx:VR ι x xv)(hl:loadT p s t x=some v){K:Value->Heap->Prop}(hk:∀u,VR ι v u->K u h):fU P t xv h K:=by
 unfold loadT at hl;split at hl
 .rename_i b o;simp only[VR]at hx;obtain⟨y,L,rfl⟩:=hx;split at hl
  .rename_i ti cs B j;have tf:=ok.tf B;obtain⟨N,O,g,G,J,d⟩:=row_of H j L;split at hl
   .rename_i a;split at hl
    .rename_i A;cases hl;have A:=aH.1 A;rw[EB (by rw[tf.agg,a]) tf.isSome];have:gm h (some ⟨y.r,o,none⟩) (szT P t)=some ((g.toList.drop o).take ti.size):=by
      simp only[gm,G,tf.size];rw[if_pos (by simp;omega)]
     rw[this,Ai];refine hk _ ?_;simp only[VR];exact⟨_,rfl,by simpa using d.sub A⟩
    .cases hl
   .rename_i a;rw[Dg (by rw[tf.agg,a])];obtain⟨u,C,I⟩:=d.get hl;have q:=(aS.1 hl).1;have:jL h (some ⟨y.r,o,none⟩)=some u:=by
     simp only[jL,G];rw[List.getElem?_take,if_pos q]at C;simpa using C
    rw[this,qI];exact hk _ I
  .cases hl
 .cases hl
end ops
end Go.Run
namespace Go.Run
open Go Go.Eng
section ops2
variable {P:Program}{p:Pr}{ι:Io}{s:S}{h:Heap}{m:Fm}{e:E}{er:Env}
section
variable {cs:List T}{o:Nat}{vs:List T}
theorem Sy {t:T}{v:Value}(ho:vo t=true)(hv:VR ι t v):one v=true/\v.cells= #[v]:=by
 cases t<;>simp only[vo,eB]at ho<;>simp only[VR]at hv
 case bool=>subst hv;exact⟨rfl,rfl⟩
 case int=>subst hv;exact⟨rfl,rfl⟩
 case str=>subst hv;exact⟨rfl,rfl⟩
 case rZ=>subst hv;exact⟨rfl,rfl⟩
 case ptr=>obtain⟨x,_,rfl⟩:=hv;exact⟨rfl,rfl⟩
 case dh=>subst hv;exact⟨rfl,rfl⟩
 case slice=>obtain⟨x,_,rfl⟩:=hv;exact⟨rfl,rfl⟩
 case own=>obtain⟨x,_,rfl,_⟩:=hv;exact⟨rfl,rfl⟩
 case sub=>obtain⟨x,c,_,rfl,_⟩:=hv;exact⟨rfl,rfl⟩
 case empty=>obtain⟨x,c,rfl⟩:=hv;exact⟨rfl,rfl⟩
 case res=>obtain⟨z,rfl,_⟩:=hv;exact⟨rfl,rfl⟩
 case pY=>subst hv;exact⟨rfl,rfl⟩
 case map=>obtain⟨x,_,rfl⟩:=hv;exact⟨rfl,rfl⟩
 case func f a b=>
  split at hv
  .obtain⟨_,_,x,_,rfl⟩:=hv;exact⟨rfl,rfl⟩
  .obtain⟨c,d,rfl,_⟩:=hv;exact⟨rfl,rfl⟩
 case nC=>subst hv;exact⟨rfl,rfl⟩
 case iM=>subst hv;exact⟨rfl,rfl⟩
theorem wD:∀{ts:List T} {vs:List Value},VL ι ts vs->ts.all vo=true->vs.all one=true
 |[],vs,h,_=>by simp only[VL]at h;simp[h]
 |t::ts,vs,h,ho=>by
  simp only[VL]at h;obtain⟨v,r,rfl,a,d⟩:=h;simp only[Mc,aF]at ho ⊢;exact⟨(Sy ho.1 a).1,wD d ho.2⟩
theorem KG {t:T}{v:Value}(hv:VR ι t v)(ho:(dV t).all vo=true):VL ι (dV t) v.cells.toList/\v.cells.toList.all one=true:=by
 have a:VL ι (dV t) v.cells.toList:=by
  by_cases d:∃cs,t= .agg cs
  .obtain⟨cs,rfl⟩:=d;simp only[VR]at hv;obtain⟨vs,rfl,g⟩:=hv;exact g
  .have q:dV t=[t]:=by cases t<;>first|rfl|exact absurd ⟨_,rfl⟩ d
   rw[q]at ho ⊢;simp only[Mc,List.all_nil,Bool.and_true]at ho;obtain⟨_,j⟩:=Sy ho hv;rw[j];simp only[VL];exact⟨v,[],rfl,hv,rfl⟩
 exact⟨a,wD a ho⟩
theorem Fz {c:List T}(hl:o+vs.length<=c.length):(spl c o vs).length=c.length:=by
 simp[spl];omega
theorem Gf {c:List Value}{L:Nat}{vs:List Value}(hl:o+vs.length<=L)(hL:L<=c.length):(splice c o vs).take L=splice (c.take L) o vs:=by
 unfold splice;rw[lX,tT (by omega),List.take_append,List.take_of_length_le (by simp;omega)];congr 1;rw[zB];congr 1;simp;omega
theorem VL.spl {cur:List Value}{us:List Value}(H:VL ι cs cur)(K:VL ι vs us)(_:o+vs.length<=cs.length):VL ι (spl cs o vs) (splice cur o us):=by
 unfold Run.spl splice;rw[K.length];exact((H.take o).append K).append (H.drop _)
theorem Nz {x:Inf}{ct:TypeId}{tl:Bool}{cur:Array Value}{us:List Value}(hle:cs.length<=cur.size)(hv:VL ι cs (cur.toList.take cs.length))(ht:(tl=false->cur.size=cs.length)/\(tl=true->0<szT P ct/\cur.size=x.cap*szT P ct/\x.cap<=maxLen))(K:VL ι vs us)(hl:o+vs.length<=cs.length):
 OR P ι x (.row (spl cs o vs) ct tl) (.cells (splice cur.toList o us).toArray ct (0,0)):=by
 have a:(splice cur.toList o us).length=cur.size:=by simp[splice,K.length];omega
 refine⟨_,rfl,?_,?_,?_,?_⟩
 .rw[Fz hl];simp[a];exact hle
 .rw[Fz hl];have:=hv.spl K hl;rw[<-Gf (by rw[K.length];exact hl) (by simpa using hle)]at this;simpa using this
 .intro h;rw[Fz hl];simp[a,ht.1 h]
 .intro h;simpa[a]using ht.2 h
theorem qZ (H:Sim P ι s h){b:Nat}{ct:TypeId}{tl:Bool}(hb:s.at b=some (.row cs ct tl)){x:Inf}(hx:ι b=some x):
 ∃cur,h[x.r]? =some (.cells cur ct (0,0))/\cs.length<=cur.size/\VL ι cs (cur.toList.take cs.length)/\((tl=false->cur.size=cs.length)/\(tl=true->0<szT P ct/\cur.size=x.cap*szT P ct/\x.cap<=maxLen)):=by
 obtain⟨y,C,a,d,g⟩:=H.obj b _ hb;rw[hx]at a;cases a;obtain⟨cur,rfl,j,q,A,B⟩:=g;exact⟨cur,d,j,q,A,B⟩
theorem kR (s:S)(b:Nat)(o:VO):gI s b o=bG s b (some o) s.nx (min s.low b):=by unfold gI;rw[dR,iI]
theorem PV (ok:Ok P p)(H:Sim P ι s h){t:TypeId}{x v:T}{xv vv:Value}(hx:VR ι x xv)(hv:VR ι v vv){s':S}(hl:storeT p s t x v=some s'):
 kw P t xv vv h (Post P ι s h fB s'):=by
 unfold storeT at hl;split at hl
 .rename_i b o;simp only[VR]at hx;obtain⟨y,O,rfl⟩:=hx;split at hl
  .rename_i ti cs R tl C J;dsimp only at hl;split at hl
   .rename_i L;cases hl;simp only[aF]at L;obtain⟨⟨j,q⟩,U⟩:=L;have j:=aC j;have q:=aH.1 q;have tf:=ok.tf C;obtain⟨g,N,A,I,G⟩:=qZ H J O;obtain⟨Q,Z⟩:=KG hv U;have a:=Q.length;rw[Dx tf.isSome (by rw[tf.size,<-j,<-a];simp) Z];have d:Qt h y.r=some (g.toList,R):=by simp[Qt,N]
    rw[d];refine Oy (by simpa using N) (by rw[a];simp;omega) ?_;intro h' V W;have B:=Nz (P:=P) (x:=y) A I G Q q;obtain⟨q1,q2⟩:=kg H J O B W V (low:=min s.low b) (qm _ _) (.inl (wV _ _)) (by simp[VO.am]);rw[<-kR]at q1 q2;exact⟨ι,q2,q1,by simp[fB,VR,undef,VL]⟩
   .cases hl
  .cases hl
 .cases hl
end
end ops2
end Go.Run
namespace Go.Run
open Go Go.Eng
section ops3
variable {P:Program}{p:Pr}{ι:Io}{s s':S}{h:Heap}{m:Fm}{e:E}{er:Env}{ty:TypeId}{t:T}
section
variable {u:TypeId}{x:Operand}
theorem dw {v:T}{vv:Value}(hv:VR ι v vv)(ho:jE v=true):VL ι (dV v) vv.cells.toList:=by
 by_cases g:vo v=true
 .exact(KG hv (by cases v<;>simp_all [dV,vo])).1
 .cases v<;>simp only[vo,not_true_eq_false,jE,eB]at g ho
  case agg cs=>simp only[VR]at hv;obtain⟨vs,rfl,d⟩:=hv;exact d
  case tup cs=>
   have a:=hv;simp only[VR]at hv;obtain⟨vs,rfl,d⟩:=hv;simp only[dV,Value.cells,VL];exact⟨_,[],rfl,a,rfl⟩
theorem AC (H:Sim P ι s h){cs:List T}{us:List Value}{ct:TypeId}(hv:VL ι cs us):
 Post P ι s h (.ptr s.nx 0) (fM s (.row cs ct false)) (.pointer (some ⟨h.size,0,none⟩)) (h.push (.cells us.toArray ct)):=by
 have a:=H.pI (bi s.nx);have:=jQ H (o:= .row cs ct false) (ob:= .cells us.toArray ct (0,0)) (x:=⟨h.size,0,#[],0,0⟩) rfl
  ⟨_,rfl,by simp[hv.length],by have:=VL.mono (Io.gU (x:=⟨h.size,0,#[],0,0⟩) a) cs hv;rw[<-hv.length];simpa using this,fun _=>by simp[hv.length],fun h=>by cases h⟩
 exact⟨_,this.2,this.1,by simp only[VR];exact⟨_,Io.dm,rfl⟩⟩
theorem YJ (re:RE ι m e er)(H:Sim P ι s h)(hd:GX p m e s x=some (t,s')):aI P (.move x) ty er h (Post P ι s h t s'):=by
 obtain⟨a,rfl⟩:=fD hd;exact aM (by rw[KJ];exact Post.pure H (ai re a))
theorem Si (re:RE ι m e er)(H:Sim P ι s h)(hd:yH p m e s x=some (t,s')):aI P (.assign x) ty er h (Post P ι s h t s'):=by
 obtain⟨a,rfl⟩:=fD hd;exact aM (by rw[Au];exact Post.pure H (ai re a))
theorem ZK (re:RE ι m e er)(H:Sim P ι s h){c a b:Operand}(hd:AJ p m e s c a b=some (t,s')):aI P (.pick c a b) ty er h (Post P ι s h t s'):=by
 unfold AJ at hd;split at hd
 .rename_i d;obtain⟨g,rfl⟩:=fD hd;have d:=ai re d;simp only[VR]at d;exact aM (by rw[AQ,d,KR];exact Post.pure H (ai re g))
 .rename_i d;obtain⟨g,rfl⟩:=fD hd;have d:=ai re d;simp only[VR]at d;exact aM (by rw[AQ,d,EX];exact Post.pure H (ai re g))
 .cases hd
theorem zAx (re:RE ι m e er)(H:Sim P ι s h)(hd:tJ p m e s u x=some (t,s')):aI P (.box u x) ty er h (Post P ι s h t s'):=by
 unfold tJ at hd;split at hd
 .rename_i v hv;split at hd
  .rename_i a;cases hd;refine aM (by rw[FY];have:=AC H (ct:=u) (dw (ai re hv) a);simpa using this)
  .cases hd
 .cases hd
theorem Uz (ok:Ok P p)(H:Sim P ι s h)(hd:nJ p m e s u=some (t,s')):aI P (.alloc u) ty er h (Post P ι s h t s'):=by
 unfold nJ at hd;split at hd
 .rename_i ti a;split at hd
  .rename_i j;cases hd;have tf:=ok.tf a;obtain⟨z,d,g⟩:=tf.zero;refine aM (by rw[wZ,d,BR];have:=AC H (ct:=u) (dw (g ι) j);simpa using this)
  .cases hd
 .cases hd
theorem UC (ok:Ok P p)(re:RE ι m e er)(H:Sim P ι s h)(hd:rQ p m e s u x=some (t,s')):aI P (.load u x) ty er h (Post P ι s h t s'):=by
 unfold rQ at hd;split at hd
 .rename_i v hv;obtain⟨a,rfl⟩:=fD hd;exact aM (by rw[Jf];exact Gj ok H (ai re hv) a fun u d=>Post.pure H d)
 .cases hd
theorem Ve (ok:Ok P p)(re:RE ι m e er)(H:Sim P ι s h){a:Operand}(hd:uX p m e s u a x=some (t,s')):aI P (.store u a x) ty er h (Post P ι s h t s'):=by
 unfold uX at hd;split at hd
 .rename_i q B d j;split at hd
  .rename_i A g;cases hd;exact aM (by rw[EJ];exact PV ok H (ai re d) (ai re j) g)
  .cases hd
 .cases hd
theorem Qe (re:RE ι m e er)(H:Sim P ι s h){i:Nat}(hd:oQ p m e s x i=some (t,s')):aI P (.extract x i) ty er h (Post P ι s h t s'):=by
 unfold oQ at hd;split at hd
 .rename_i vs hv;obtain⟨d,rfl⟩:=fD hd;have hv:=ai re hv;simp only[VR]at hv;obtain⟨A,g,j⟩:=hv;obtain⟨u,a,q⟩:=j.get d;have a:A[i]? =some u:=by simpa using a
  exact aM (by rw[yg,g];simp only[exW,a,qI];exact Post.pure H q)
 .cases hd
theorem NB (re:RE ι m e er)(H:Sim P ι s h)(hd:mQ p m e s x=some (t,s')):aI P (.nilCheck x) ty er h (Post P ι s h t s'):=by
 unfold mQ at hd;split at hd
 .rename_i b o hv;cases hd;have hv:=ai re hv;have a:=hv;simp only[VR]at hv;obtain⟨y,g,d⟩:=hv;exact aM (by rw[uz,d];simp only[ncW];exact Post.pure H (d▸a))
 .cases hd
end
end ops3
end Go.Run
namespace Go.Run
open Go Go.Eng
section nums
theorem mU (a b:Int):yF a b=decide (a=b):=by
 cases a<;>cases b<;>simp only[yF]
 .rename_i a b;by_cases h:a=b
  .subst h;simp
  .have:aX a b=false:=by cases hb:aX a b with|false=>rfl|true=>exact absurd (aC hb) h
   simp only[this,bL];symm;rw[decide_eq_false_iff_not];omega
 .simp
 .simp
 .rename_i a b;by_cases h:a=b
  .subst h;simp
  .have:aX a b=false:=by cases hb:aX a b with|false=>rfl|true=>exact absurd (aC hb) h
   simp[this,h]
theorem bX {a b:Nat}:kV a b=true<->a<b:=by unfold kV;rw[aH];omega
theorem oU (a b:Int):ltI a b=decide (a<b):=by
 cases a<;>cases b<;>simp only[ltI]
 .rename_i a b;rw[mD,bX,decide_eq_true_iff];simp only[bL];omega
 .rename_i a b;symm;rw[decide_eq_false_iff_not];simp only[bL];omega
 .rename_i a b;symm;rw[decide_eq_true_iff];simp only[bL];omega
 .rename_i a b;rw[mD,bX,decide_eq_true_iff];omega
theorem tF (a b:Int):leI a b=decide (a<=b):=by
 unfold leI;rw[oU];by_cases h:a<=b
 .simp[h,Int.not_lt.2 h]
 .simp[h,Int.not_le.1 h]
theorem RJ {k:IntKind}{n:Int}(h:inK k n=true):InK k n:=by
 unfold inK at h;split at h
 .have:=aH.1 h;simp only[InK,sK,sF,lN,qz,bL];constructor<;>simp<;>omega
 .have:=aH.1 h;simp only[InK,sK,sF,lN,qz];constructor<;>simp<;>omega
 .have:=aH.1 h;simp only[InK,sK,sF,lN,qz,bL];constructor<;>simp<;>omega
 .have:=aH.1 h;simp only[InK,sK,sF,lN,qz,bL];constructor<;>simp<;>omega
 .have:=aH.1 h;simp only[InK,sK,sF,lN,qz];constructor<;>simp<;>omega
 .have:=aH.1 h;simp only[InK,sK,sF,lN,qz,bL];constructor<;>simp<;>omega
 .have:=aH.1 h;simp only[InK,sK,sF,lN,qz,bL];constructor<;>simp<;>omega
 .cases h
theorem jR {k j:IntKind}(h:Ir k j=true):k=j:=by cases k<;>cases j<;>first|rfl|cases h
theorem fu {k:IntKind}{n:Int}{t:T}(h:wY k n=some t):InK k n/\t= .int k n:=by
 unfold wY at h;rw[aJ]at h;split at h
 .rename_i hi;cases h;exact⟨RJ hi,rfl⟩
 .cases h
theorem kI:∀(s t:List UInt8),uR s t=decide (s=t)
 |[],[]=>by simp[uR]
 |[],b::t=>by simp[uR]
 |a::s,[]=>by simp[uR]
 |a::s,b::t=>by
  simp only[uR];by_cases h:a=b
  .subst h;simp[kI s t]
  .have:aX a.toNat b.toNat=false:=by
    cases hb:aX a.toNat b.toNat with
    |false=>rfl
    |true=>exact absurd (UInt8.toNat_inj.1 (aC hb)) h
   simp[this,h]
end nums
section ops4
variable {P:Program}{p:Pr}{ι:Io}{s s':S}{h:Heap}{m:Fm}{e:E}{er:Env}{ty:TypeId}{t:T}{K:Value->Heap->Prop}
theorem W9 {op:BinOp}{k:IntKind}{a b:Int}(hi:Sq op k a b=some t)(hk:∀u,VR ι t u->K u h):op≠.shl/\op≠.shr/\fI op k a b h K:=by
 unfold Sq at hi;cases op<;>simp only at hi
 case shl=>cases hi
 case shr=>cases hi
 all_goals refine⟨by simp,by simp,?_⟩
 all_goals simp only[fI]
 case add=>obtain⟨d,rfl⟩:=fu hi;exact⟨d,hk _ (by simp only[VR];rfl)⟩
 case sub=>obtain⟨d,rfl⟩:=fu hi;exact⟨d,hk _ (by simp only[VR];rfl)⟩
 case mul=>obtain⟨d,rfl⟩:=fu hi;exact⟨d,hk _ (by simp only[VR];rfl)⟩
 case quo=>
  split at hi
  .cases hi
  .rename_i g;rw[mU]at g;obtain⟨d,rfl⟩:=fu hi;exact⟨by simpa using g,d,hk _ (by simp only[VR])⟩
 case rem=>
  split at hi
  .cases hi
  .rename_i g;rw[mU]at g;cases hi;exact⟨by simpa using g,hk _ (by simp only[VR])⟩
 all_goals first
  |(cases hi;exact hk _ (by simp only[VR,mU,oU,tF]))
  |cases hi
theorem TG {op:BinOp}{k:IntKind}{a b:Int}(ho:op= .shl\/op= .shr)(hi:WC op k a b=some t)(hk:∀u,VR ι t u->K u h):fI op k a b h K:=by
 unfold WC at hi;split at hi
 .rename_i d g;rw[tF,decide_eq_true_iff]at d g;rcases ho with rfl|rfl
  .simp only at hi;obtain⟨j,rfl⟩:=fu hi;exact⟨d,g,j,hk _ (by simp only[VR])⟩
  .simp only at hi;cases hi;exact⟨d,g,hk _ (by simp only[VR])⟩
 .cases hi
theorem Kq (a b:List UInt8):(⟨⟨a⟩⟩:ByteArray)++⟨⟨b⟩⟩=⟨⟨a++b⟩⟩:=by
 apply ByteArray.ext;simp
theorem lI (a:List UInt8):(⟨⟨a⟩⟩:ByteArray).size=a.length:=rfl
theorem str_eq (a b:List UInt8):((⟨⟨a⟩⟩:ByteArray)=⟨⟨b⟩⟩)=(a=b):=by simp
end ops4
end Go.Run
namespace Go.Run
open Go Go.Eng
section ops5
variable {P:Program}{p:Pr}{ι:Io}{s s':S}{h:Heap}{m:Fm}{e:E}{er:Env}{ty:TypeId}{t:T}{K:Value->Heap->Prop}
section
variable {ti:TI}{u:TypeId}
theorem TF.slice (H:TF P u ti){el:TypeId}(hd:ti.d= .slice el):P.underlying u=some (.slice el):=by
 obtain⟨d,a⟩:=H.und;have:=H.d;rw[hd]at this;unfold mkD at this;rw[a]at this;cases d<;>simp at this;rw[a,this]
theorem TF.array (H:TF P u ti){n:Nat}{el:TypeId}(hd:ti.d= .array n el):P.underlying u=some (.array n el):=by
 obtain⟨d,a⟩:=H.und;have:=H.d;rw[hd]at this;unfold mkD at this;rw[a]at this;cases d<;>simp at this;rw[a,this.1,this.2]
theorem TF.map (H:TF P u ti){k v:TypeId}(hd:ti.d= .map k v):P.underlying u=some (.map k v):=by
 obtain⟨d,a⟩:=H.und;have:=H.d;rw[hd]at this;unfold mkD at this;rw[a]at this;cases d<;>simp at this;rw[a,this.1,this.2]
theorem TF.int (H:TF P u ti){k:IntKind}(hd:ti.d= .int k):P.underlying u=some (.int k):=by
 obtain⟨d,a⟩:=H.und;have:=H.d;rw[hd]at this;unfold mkD at this;rw[a]at this;cases d<;>simp at this;rw[a,this]
theorem TF.string (H:TF P u ti)(hd:ti.d= .string):P.underlying u=some .string:=by
 obtain⟨d,a⟩:=H.und;have:=H.d;rw[hd]at this;unfold mkD at this;rw[a]at this;cases d<;>simp at this;rw[a]
theorem TF.bool (H:TF P u ti)(hd:ti.d= .bool):P.underlying u=some .bool:=by
 obtain⟨d,a⟩:=H.und;have:=H.d;rw[hd]at this;unfold mkD at this;rw[a]at this;cases d<;>simp at this;rw[a]
theorem TF.lV (H:TF P u ti){fs:List (Nat×TypeId×Nat)}(hd:ti.d= .lV fs):∃gs,P.underlying u=some (.struct gs)/\fs=gs.toList.map fun f=>(f.offset,f.type,szT P f.type):=by
 obtain⟨d,a⟩:=H.und;have:=H.d;rw[hd]at this;unfold mkD at this;rw[a]at this;cases d<;>simp at this;exact⟨_,a,this⟩
theorem Jg (ok:Ok P p)(re:RE ι m e er)(H:Sim P ι s h){x:Operand}{f:Nat}(hd:kK p m e s u x f=some (t,s')):aI P (.fieldAddr u x f) ty er h (Post P ι s h t s'):=by
 unfold kK at hd;split at hd
 .rename_i b o ti d C;split at hd
  .rename_i R q;split at hd
   .rename_i Q U V A;split at hd
    .rename_i fi B;split at hd
     .rename_i J;cases hd;have tf:=ok.tf C;obtain⟨L,N,rfl⟩:=tf.lV q;have j:=ok.tf B;have d:=ai re d;simp only[VR]at d;obtain⟨y,O,d⟩:=d;unfold mV at A;rw[rV]at A;obtain⟨G,a,I⟩:=kS.1 A;simp only[Prod.mk.injEq]at I;obtain⟨rfl,rfl,rfl⟩:=I;have a:L[f]? =some G:=by simpa using a
      have g:jG P u f=some G.offset:=by
       have J:=aH.1 J;simp only[jG,N,a,j.isSome,j.size];simp;omega
      refine aM (by rw[sJ,d,g,Ue];exact Post.pure H (by simp only[VR];exact⟨y,O,rfl⟩))
     .cases hd
    .cases hd
   .cases hd
  .cases hd
 .cases hd
theorem uh {x:T}{v:Value}(hv:VR ι x v){b o n:Nat}(hp:fP x=some (b,o,n)):∃y c,ι b=some y/\v= .slice (some ⟨y.r,o,none⟩) n c/\(n<=c\/∃c',x= .slice b o n c'):=by
 unfold fP at hp;split at hp
 .cases hp;simp only[VR]at hv;obtain⟨y,a,rfl⟩:=hv;exact⟨y,_,a,rfl,.inr ⟨_,rfl⟩⟩
 .cases hp;simp only[VR]at hv;obtain⟨y,a,rfl,d⟩:=hv;exact⟨y,_,a,rfl,.inl d⟩
 .cases hp;simp only[VR]at hv;obtain⟨y,c,a,rfl,d⟩:=hv;exact⟨y,_,a,rfl,.inl d⟩
 .cases hp
theorem ug {n:Int}{len j:Nat}(h:inR n len=some j):n=j/\j<len:=by
 unfold inR at h;split at h
 .split at h
  .rename_i a;cases h;exact⟨rfl,bX.1 a⟩
  .cases h
 .cases h
theorem Jt (ok:Ok P p)(re:RE ι m e er)(H:Sim P ι s h){x i:Operand}(hd:jw p m e s u x i=some (t,s')):aI P (.indexAddr u x i) ty er h (Post P ι s h t s'):=by
 unfold jw at hd;split at hd
 .rename_i N L q hi;obtain⟨a,rfl⟩:=fD hd
  replace q:=ai re q
  replace hi:=ai re hi
  clear hd;unfold JN at a;split at a
  .rename_i k n;simp only[VR]at hi;split at a
   .rename_i ti G;have tf:=ok.tf G;split at a
    .rename_i el d;split at a
     .rename_i ei b o len g J;have A:=ok.tf g;split at a
      .rename_i j B;cases a;obtain⟨rfl,C⟩:=ug B;obtain⟨y,c,I,hv,_⟩:=uh q J;refine aM ?_;rw[mi,FH,hv,hi,tf.slice d,Dk A.isSome];refine⟨⟨by omega,by omega⟩,rfl,?_⟩;rw[gK];refine Post.pure H ?_;simp only[VR];exact⟨y,I,by simp[A.size]⟩
      .cases a
     .cases a
    .rename_i len el d;split at a
     .rename_i ei b o g;have A:=ok.tf g;split at a
      .rename_i j B;cases a;obtain⟨rfl,C⟩:=ug B;simp only[VR]at q;obtain⟨y,I,hv⟩:=q;refine aM (by rw[mi,FH,hv,hi,tf.array d,Dv A.isSome];exact⟨⟨by omega,by omega⟩,Post.pure H (by simp only[VR];exact⟨y,I,by simp[A.size]⟩)⟩)
      .cases a
     .cases a
    .cases a
   .cases a
  .cases a
 .cases hd
end
end ops5
end Go.Run
namespace Go.Run
open Go Go.Eng
section ops6
variable {P:Program}{p:Pr}{ι:Io}{s s':S}{h:Heap}{m:Fm}{e:E}{er:Env}{ty:TypeId}{t:T}{K:Value->Heap->Prop}
section
variable {b hi:Int}{k:IntKind}{lo:Int}{op:BinOp}{r:Int}{u:TypeId}{x:Operand}
theorem vI (re:RE ι m e er):∀{xs:List Operand} {ts:List T},qE m e xs=some ts->VL ι ts (xs.map (ev er))
 |[],ts,hx=>by simp only[qE,Option.some.injEq]at hx;subst hx;simp[VL]
 |x::xs,ts,hx=>by
  simp only[qE]at hx;split at hx
  .rename_i a r d g;cases hx;simp only[lT,VL];exact⟨_,_,rfl,ai re d,vI re g⟩
  .cases hx
theorem LU (re:RE ι m e er)(H:Sim P ι s h){fn:Fn}{first caps:Array Operand}(hd:mP p m e s fn first caps=some (t,s')):aI P (.makeFunc fn first caps) ty er h (Post P ι s h t s'):=by
 unfold mP at hd;split at hd
 .rename_i g;split at hd
  .rename_i a b d j;cases hd;refine aM ?_;rw[wC];refine Post.pure H ?_;simp only[VR];exact⟨_,_,rfl,by simpa using vI re d,by simpa using vI re j⟩
  .cases hd
 .cases hd
theorem zBI (re:RE ι m e er)(H:Sim P ι s h)(hd:GZ p m e s x=some (t,s')):aI P (.unOp .not u x) ty er h (Post P ι s h t s'):=by
 unfold GZ at hd;split at hd
 .rename_i b a;cases hd;have a:=ai re a;simp only[VR]at a;refine aM ?_;rw[N8,a];simp only[ntW];exact Post.pure H (by simp only[VR])
 .cases hd
theorem zA7 (re:RE ι m e er)(H:Sim P ι s h)(hd:Ep p m e s x=some (t,s')):aI P (.unOp .neg u x) ty er h (Post P ι s h t s'):=by
 unfold Ep at hd;split at hd
 .rename_i k n a;obtain⟨d,rfl⟩:=fD hd;obtain⟨g,rfl⟩:=fu d;have a:=ai re a;simp only[VR]at a;refine aM ?_;rw[NY,a];simp only[DF];exact⟨g,Post.pure H (by simp only[VR])⟩
 .cases hd
theorem zBu (re:RE ι m e er)(H:Sim P ι s h){o:UnOp}(hd:Na p m e s o x=some (t,s')):aI P (.unOp o u x) ty er h (Post P ι s h t s'):=by
 unfold Na at hd;split at hd
 .exact zBI re H hd
 .exact zA7 re H hd
 .cases hd
theorem VU {a b:List UInt8}{F:Prop}(hi:(match op with
 | .add=>match bn (a.length+b.length) 1000000000 with|true=>some (.str (a++b))|false=>none
 | .eql=>some (.bool (uR a b))
 | .neq=>some (.bool (!uR a b))
 |_=>none:Option T)=some t) (hk:∀u,VR ι t u->K u h):Qp op ⟨⟨a⟩⟩ ⟨⟨b⟩⟩ h K F:=by
 cases op<;>simp only at hi<;>try (cases hi;done)
 case add=>
  split at hi
  .rename_i d;cases hi;have d:=aH.1 d;refine⟨by simp only[lI];omega,hk _ ?_⟩;simp only[VR,Kq]
  .cases hi
 case eql=>cases hi;exact hk _ (by simp only[VR,kI,str_eq])
 case neq=>cases hi;exact hk _ (by simp only[VR,kI,str_eq])
theorem JC (re:RE ι m e er)(H:Sim P ι s h){yt:TypeId}{y:Operand}{j:IntKind}{a:Int}(hx:opd m e x=some (.int k a))(hy:opd m e y=some (.int j b))(hb:JJ p op u (.int k a) (.int j b)=some t):aI P (.binOp op u x y yt) ty er h (Post P ι s h t s):=by
 have hx:=ai re hx;have hy:=ai re hy;simp only[VR]at hx hy;refine aM ?_;rw[rH,hx,hy];unfold JJ at hb;simp only at hb;unfold dF;simp only;split at hb
 .exact TG (.inl rfl) hb fun u d=>Post.pure H d
 .exact TG (.inr rfl) hb fun u d=>Post.pure H d
 .rename_i q A;split at hb
  .rename_i g;have:=W9 (h:=h) hb fun u d=>Post.pure H d
   split
   .exact absurd rfl q
   .exact absurd rfl A
   .exact⟨jR g,this.2.2⟩
  .cases hb
theorem Az {m:Int}{t:T}(h:N7 k m r lo hi=some t):InK k lo/\InK k hi/\t= .res k m (r % m) lo hi:=by
 unfold N7 at h;split at h
 .rename_i a b d g;cases h;exact⟨(fu d).1,(fu g).1,rfl⟩
 .cases h
theorem Gb {z:Int}(h1:InK k lo)(h2:InK k hi)(a:lo<=z)(b:z<=hi):InK k z:=⟨Oe h1.1 a,Oe b h2.2⟩
theorem WX {m z:Int}(hd:TZ op k m r lo hi b=some t)(h1:z % m=r)(h2:lo<=z)(h3:z<=hi)(hk:∀u,VR ι t u->K u h):op≠.shl/\op≠.shr/\fI op k z b h K:=by
 unfold TZ at hd;cases op<;>simp only at hd
 case add=>
  obtain⟨d,g,rfl⟩:=Az hd;refine⟨by simp,by simp,?_⟩;simp only[fI];exact⟨Gb d g (by omega) (by omega),hk _ (by simp only[VR];exact⟨_,rfl,by rw[<-h1,MO],by omega,by omega⟩)⟩
 case sub=>
  obtain⟨d,g,rfl⟩:=Az hd;refine⟨by simp,by simp,?_⟩;simp only[fI];exact⟨Gb d g (by omega) (by omega),hk _ (by simp only[VR];exact⟨_,rfl,by rw[<-h1,MO,Int.sub_eq_add_neg],by omega,by omega⟩)⟩
 case rem=>
  split at hd
  .rename_i a;cases hd;simp only[aF,tF,oU,mU,decide_eq_true_eq]at a;obtain⟨c1,c2,c3⟩:=a;refine⟨by simp,by simp,?_⟩;simp only[fI];have j:0<=z:=Oe c1 h2;have e:z.tmod b=r % b:=by
    rw[Int.tmod_eq_emod_of_nonneg j,<-h1,Int.emod_emod_of_dvd z (Int.dvd_of_emod_eq_zero c3)]
   refine⟨by omega,?_⟩;rw[e];exact hk _ (by simp only[VR])
  .cases hd
 case lss=>
  split at hd
  .rename_i a;rw[oU,decide_eq_true_eq]at a;cases hd;exact⟨by simp,by simp,by simp only[fI];exact hk _ (by simp only[VR];rw[decide_eq_true (by omega)])⟩
  .split at hd
   .rename_i a;rw[tF,decide_eq_true_eq]at a;cases hd;exact⟨by simp,by simp,by simp only[fI];exact hk _ (by simp only[VR];rw[decide_eq_false (by omega)])⟩
   .cases hd
 case geq=>
  split at hd
  .rename_i a;rw[oU,decide_eq_true_eq]at a;cases hd;exact⟨by simp,by simp,by simp only[fI];exact hk _ (by simp only[VR];rw[decide_eq_false (by omega)])⟩
  .split at hd
   .rename_i a;rw[tF,decide_eq_true_eq]at a;cases hd;exact⟨by simp,by simp,by simp only[fI];exact hk _ (by simp only[VR];rw[decide_eq_true (by omega)])⟩
   .cases hd
 case gtr=>
  split at hd
  .rename_i a;rw[oU,decide_eq_true_eq]at a;cases hd;exact⟨by simp,by simp,by simp only[fI];exact hk _ (by simp only[VR];rw[decide_eq_true (by omega)])⟩
  .split at hd
   .rename_i a;rw[tF,decide_eq_true_eq]at a;cases hd;exact⟨by simp,by simp,by simp only[fI];exact hk _ (by simp only[VR];rw[decide_eq_false (by omega)])⟩
   .cases hd
 case leq=>
  split at hd
  .rename_i a;rw[oU,decide_eq_true_eq]at a;cases hd;exact⟨by simp,by simp,by simp only[fI];exact hk _ (by simp only[VR];rw[decide_eq_false (by omega)])⟩
  .split at hd
   .rename_i a;rw[tF,decide_eq_true_eq]at a;cases hd;exact⟨by simp,by simp,by simp only[fI];exact hk _ (by simp only[VR];rw[decide_eq_true (by omega)])⟩
   .cases hd
 all_goals cases hd
theorem Jl (re:RE ι m e er)(H:Sim P ι s h){yt:TypeId}{y:Operand}{j:IntKind}{q:Int}(hx:opd m e x=some (.res k q r lo hi))(hy:opd m e y=some (.int j b))(hb:JJ p op u (.res k q r lo hi) (.int j b)=some t):aI P (.binOp op u x y yt) ty er h (Post P ι s h t s):=by
 have hx:=ai re hx;have hy:=ai re hy;simp only[VR]at hx hy;obtain⟨z,hx,d,g,A⟩:=hx;refine aM ?_;rw[rH,hx,hy];unfold JJ at hb;simp only at hb;split at hb
 .rename_i a;have:=WX (h:=h) hb d g A fun u B=>Post.pure H B
  unfold dF;simp only;split
  .exact absurd rfl this.1
  .exact absurd rfl this.2.1
  .exact⟨jR a,this.2.2⟩
 .cases hb
end
end ops6
end Go.Run
namespace Go.Run
open Go Go.Eng
section ops7
variable {P:Program}{p:Pr}{ι:Io}{s s':S}{h:Heap}{m:Fm}{e:E}{er:Env}{ty:TypeId}{t:T}{K:Value->Heap->Prop}
section
variable {i:Operand}{u:TypeId}{x:Operand}
theorem VH (ok:Ok P p)(re:RE ι m e er)(H:Sim P ι s h){f:Nat}(hd:vw p m e s u x f=some (t,s')):aI P (.field u x f) ty er h (Post P ι s h t s'):=by
 unfold vw at hd;split at hd
 .rename_i cs ti g I;split at hd
  .rename_i W A;split at hd
   .rename_i V Z sz B;split at hd
    .rename_i fi C;have tf:=ok.tf I;have L:=ok.tf C;obtain⟨N,U,rfl⟩:=tf.lV A
     replace g:=ai re g
     simp only[VR]at g;obtain⟨vs,g,j⟩:=g;unfold mV at B;rw[rV]at B;obtain⟨q,d,J⟩:=kS.1 B;simp only[Prod.mk.injEq]at J;obtain⟨rfl,rfl,rfl⟩:=J;have d:N[f]? =some q:=by simpa using d
     have G:mH P u f=some (q.offset,q.type):=by simp[mH,U,d]
     refine aM ?_;rw[Dw,g,G];simp only[BX,nT,L.agg];split at hd
     .rename_i a;split at hd
      .rename_i hn;cases hd;rw[a];refine⟨L.isSome,Post.pure H ?_⟩;simp only[VR];exact⟨_,rfl,by simpa using(j.drop _).take _⟩
      .cases hd
     .rename_i a;obtain⟨O,rfl⟩:=fD hd;rw[a];obtain⟨v,Q,R⟩:=j.get O;simp only[Q,qI];exact Post.pure H R
    .cases hd
   .cases hd
  .cases hd
 .cases hd
theorem KD (re:RE ι m e er)(H:Sim P ι s h){a:List UInt8}{k:IntKind}{n:Int}{j:Nat}{b:UInt8}(hu:P.underlying u=some .string)(hx:opd m e x=some (.str a))(hi:opd m e i=some (.int k n))(hj:inR n a.length=some j)(hb:a[j]? =some b):
 aI P (.index u x i) ty er h (Post P ι s h (.int .u8 (.ofNat b.toNat)) s):=by
 replace hx:=ai re hx
 replace hi:=ai re hi
 simp only[VR]at hx hi;obtain⟨rfl,d⟩:=ug hj;refine aM ?_;rw[Dj,hx,hi,hu];simp only[Ct];refine⟨⟨by omega,by simp only[lI];omega⟩,?_⟩;have:(({data:={toList:=a}}:ByteArray).data.getD (Int.toNat ↑j) 0)=b:=by
  rw[Array.getD_eq_getD_getElem?];simp[hb]
 rw[this];exact Post.pure H (by simp only[VR];rfl)
theorem Ii (ok:Ok P p)(re:RE ι m e er)(H:Sim P ι s h){el:TypeId}{ei:TI}{cs:List T}{k:IntKind}{n:Int}{len j:Nat}(hu:P.underlying u=some (.array len el))(hei:p.ty el=some ei)(hx:opd m e x=some (.agg cs))(hi:opd m e i=some (.int k n))(hj:inR n len=some j)(hb:(match yG ei.d with
 |true=>(match bn (j*ei.size+ei.size) cs.length with|true=>some (.agg ((cs.drop (j*ei.size)).take ei.size))|false=>none)
 |false=>cs[j*ei.size]? :Option T)=some t):
 aI P (.index u x i) ty er h (Post P ι s h t s):=by
 replace hx:=ai re hx
 replace hi:=ai re hi
 simp only[VR]at hx hi;obtain⟨vs,hx,A⟩:=hx;obtain⟨rfl,N⟩:=ug hj;have C:=ok.tf hei;obtain⟨B,q,I,_⟩:=C.info;have J:∃v,VR ι t v/\∀w:World,(part el vs (j*B.size)).run P w= .ok v w:=by
  have:nT P el vs.toList (j*B.size) h (fun v _=>VR ι t v):=by
   simp only[nT,C.agg];rw[I];split at hb
   .rename_i a;split at hb
    .cases hb;rw[a];exact⟨C.isSome,by simp only[VR];exact⟨_,rfl,by simpa[C.size]using(A.drop _).take _⟩⟩
    .cases hb
   .rename_i a;rw[a];obtain⟨v,g,L⟩:=A.get hb;simp only[g,qI];exact L
  obtain⟨v,G,g⟩:=Ar (P:=P) this;exact⟨v,G,g⟩
 obtain⟨v,G,g⟩:=J;refine aK rfl v (Post.pure H G) fun w _=> ?_
 have O:(0:Int)<=(j:Int)/\(j:Int)<len:=⟨by omega,by omega⟩;simp[execOp,Instr.index,hx,hi,asIntOf,run_underlying hu,O,sizeOf,typeInfo,q,g];intro Q;omega
theorem Wm (ok:Ok P p)(re:RE ι m e er)(H:Sim P ι s h)(hd:vG p m e s u x i=some (t,s')):aI P (.index u x i) ty er h (Post P ι s h t s'):=by
 unfold vG at hd;split at hd
 .rename_i N k n I hi;split at hd
  .rename_i ti G;have tf:=ok.tf G;split at hd
   .rename_i a q;split at hd
    .rename_i j C;split at hd
     .rename_i b J;cases hd;exact KD re H (tf.string q) I hi C J
     .cases hd
    .cases hd
   .rename_i len el cs q;split at hd
    .rename_i ei j B C;have:s'=s/\(match yG ei.d with
      |true=>(match bn (j*ei.size+ei.size) cs.length with|true=>some (.agg ((cs.drop (j*ei.size)).take ei.size))|false=>none)
      |false=>cs[j*ei.size]? :Option T)=some t:=by
      split at hd
      .rename_i g;split at hd
       .rename_i L;cases hd;refine⟨rfl,?_⟩;simp only[g,L]
       .cases hd
      .rename_i g;obtain⟨A,rfl⟩:=fD hd;refine⟨rfl,?_⟩;simp only[g,A]
     obtain⟨rfl,A⟩:=this;exact Ii ok re H (tf.array q) B I hi C A
    .cases hd
   .cases hd
  .cases hd
 .cases hd
end
end ops7
end Go.Run
namespace Go.Run
open Go Go.Eng
section ops8
variable {P:Program}{p:Pr}{ι:Io}{s s':S}{h:Heap}{m:Fm}{e:E}{er:Env}{ty:TypeId}{t:T}{K:Value->Heap->Prop}
theorem Fs (H:Sim P ι s h){o:VO}{ob:Obj}{t:T}{v:Value}(ho:∀ι',Sub ι ι'->OR P ι' ⟨h.size,0,#[],0,0⟩ o ob)(hv:∀ι':Io,ι' s.nx=some ⟨h.size,0,#[],0,0⟩->VR ι' t v):
 Post P ι s h t (fM s o) v (h.push ob):=by
 have a:=H.pI (bi s.nx);have:=jQ H (o:=o) (ob:=ob) (x:=⟨h.size,0,#[],0,0⟩) rfl (ho _ (Io.gU a));exact⟨_,this.2,this.1,hv _ Io.dm⟩
theorem Pk (H:Sim P ι s h){u:TypeId}{r:Option Operand}(hd:jP p m e s r=some (t,s')):aI P (.makeMap u r) ty er h (Post P ι s h t s'):=by
 unfold jP at hd;split at hd
 .cases hd;refine aM ?_;rw[p9];exact Fs H (fun a _=>⟨_,rfl,by simp[EL],by simp[jZ]⟩) fun a h'=>by simp only[VR];exact⟨_,h',rfl⟩
 .cases hd
theorem WI (ok:Ok P p)(re:RE ι m e er)(H:Sim P ι s h){u:TypeId}{x:Operand}(hd:vB p m e s u x=some (t,s')):aI P (.range u x) ty er h (Post P ι s h t s'):=by
 unfold vB at hd;split at hd
 .rename_i U ti d j;have tf:=ok.tf j
  replace d:=ai re d
  split at hd
  .rename_i a g;cases hd;simp only[VR]at d;refine az rfl (.pointer (some ⟨h.size,0,none⟩)) (h.push (.stringIter ⟨⟨a⟩⟩ 0)) (Fs H (fun A _=>rfl) fun A h'=>by simp only[VR];exact⟨_,h',rfl⟩) fun w q=> ?_
   subst q;exact⟨{w with heap:=w.heap.push (.stringIter ⟨⟨a⟩⟩ 0)},by simp[execOp,Instr.range,d,run_underlying (tf.string g)],rfl,rfl,rfl,rfl⟩
  .rename_i k v b g;split at hd
   .rename_i es c L;cases hd;simp only[VR]at d;obtain⟨y,G,d⟩:=d;obtain⟨V,R,C,I,J⟩:=H.obj b _ L;rw[G]at C;cases C;obtain⟨B,rfl,O,Q⟩:=J;refine az rfl (.pointer (some ⟨h.size,0,none⟩)) (h.push (.mapIter (some y.r) c #[] c)) (Fs H (fun A N=>⟨y,N _ _ G,rfl⟩) fun A h'=>by simp only[VR];exact⟨_,h',rfl⟩) fun w q=> ?_
    subst q;exact⟨{w with heap:=w.heap.push (.mapIter (some y.r) c #[] c)},by simp[execOp,Instr.range,d,run_underlying (tf.map g),getObj,Lj,I,cZ],rfl,rfl,rfl,rfl⟩
   .cases hd
  .cases hd
 .cases hd
end ops8
end Go.Run
namespace Go.Run
open Go Go.Eng
section ops9
variable {P:Program}{p:Pr}{ι:Io}{s s':S}{h:Heap}{m:Fm}{e:E}{er:Env}{ty:TypeId}{t:T}{K:Value->Heap->Prop}
theorem Fw {h:Heap}{b:Nat}(hb:b<h.size)(o:Obj):Upd h (h.setIfInBounds b o) b/\(h.setIfInBounds b o)[b]? =some o:=
 ⟨⟨by simp,fun d a=>by rw[Array.getElem?_setIfInBounds_ne (Ne.symm a)]⟩,by simp[hb]⟩
theorem gW (H:Sim P ι s h){b:Nat}{o o0:VO}{ob:Obj}{x:Inf}(h0:s.at b=some o0)(hx:ι b=some x)(ho:OR P ι x o ob){t:T}{v:Value}(hv:VR ι t v)(ha:o.am=true->o0.am=true:=by simp[VO.am]):
 Post P ι s h t (gI s b o) v (h.setIfInBounds x.r ob):=by
 obtain⟨y,j,a,d,_⟩:=H.obj b _ h0;rw[hx]at a;cases a;obtain⟨u,g⟩:=Fw (bA d) ob;obtain⟨q1,q2⟩:=kg H h0 hx ho u g (low:=min s.low b) (qm _ _) (.inl (wV _ _)) ha;rw[<-kR]at q1 q2;exact⟨ι,q2,q1,hv⟩
theorem NC (re:RE ι m e er)(H:Sim P ι s h){x:Operand}{r:Nat}{a:List UInt8}{pos:Nat}(hx:opd m e x=some (.ptr r 0))(hr:s.at r=some (.pO a pos))(hd:Dl s (.ptr r 0) true=some (t,s')):
 aI P (.next x true) ty er h (Post P ι s h t s'):=by
 replace hx:=ai re hx
 simp only[VR]at hx;obtain⟨y,O,hx⟩:=hx;obtain⟨R,ob,L,N,G⟩:=H.obj r _ hr;rw[O]at L;cases L;have G:ob= .stringIter ⟨⟨a⟩⟩ pos:=G;subst G;simp only[Dl,hr]at hd;split at hd
 .rename_i d;have d:=bX.1 d;split at hd
  .rename_i c w B;cases hd;unfold TV at B;split at B
   .rename_i b I;split at B
    .rename_i q;cases B;have q:=bX.1 q;have A:pos<(⟨⟨a⟩⟩:ByteArray).size:=by simpa[lI]using d
     have j:((⟨⟨a⟩⟩:ByteArray)[pos]'A)=b:=by
      have:=(aS.1 I).2;exact this
     have g:=decode_ascii ⟨⟨a⟩⟩ pos A (by rw[j];exact q);rw[j]at g;refine az rfl (.tuple #[.bool true,goInt pos,.int .i32 b.toNat]) (h.setIfInBounds y.r (.stringIter ⟨⟨a⟩⟩ (pos+1))) (gW H hr O (o:= .pO a (pos+1)) (ob:= .stringIter ⟨⟨a⟩⟩ (pos+1)) rfl ?_) fun C J=> ?_
     .simp only[VR];exact⟨_,rfl,by simp[VL,VR,goInt]⟩
     .subst J;refine⟨{C with heap:=C.heap.setIfInBounds y.r (.stringIter ⟨⟨a⟩⟩ (pos+1))},?_,rfl,rfl,rfl,rfl⟩;simp[execOp,Instr.next,hx,getObj,setObj,Lj,N,cZ,A,g]
    .cases B
   .cases B
  .cases hd
 .rename_i d;cases hd;have d:¬pos<a.length:=fun Q=>by rw[bX.2 Q]at d;cases d
  refine az rfl (.tuple #[.bool false]) h (Post.pure H ?_) fun C J=> ?_
  .simp only[VR];exact⟨_,rfl,by simp[VL,VR]⟩
  .subst J;refine⟨C,?_,rfl,Rest.refl _⟩;simp[execOp,Instr.next,hx,getObj,Lj,N,cZ,lI,d]
end ops9
end Go.Run
namespace Go.Run
open Go Go.Eng
section ops10
variable {P:Program}{p:Pr}{ι:Io}{s s':S}{h:Heap}{m:Fm}{e:E}{er:Env}{ty:TypeId}{t:T}{K:Value->Heap->Prop}
section
variable {ats:Array TypeId}{v:Value}{vs:List Value}{x y:T}
theorem ik (ok:Ok P p){u:Option TypeId}{d:D}(hd:descOf p u=some d):∃v ti,u=some v/\TF P v ti/\ti.d=d:=by
 unfold descOf at hd;split at hd
 .split at hd
  .rename_i ti a;cases hd;exact⟨_,ti,rfl,ok.tf a,rfl⟩
  .cases hd
 .cases hd
theorem yK (hv:VR ι x v){n:Nat}(hn:sliceLen x=some n):∃a c,v= .slice a n c:=by
 unfold sliceLen at hn;split at hn<;>cases hn<;>simp only[VR]at hv
 .subst hv;exact⟨_,_,rfl⟩
 .obtain⟨a,c,rfl⟩:=hv;exact⟨_,_,rfl⟩
 .obtain⟨y,_,rfl⟩:=hv;exact⟨_,_,rfl⟩
 .obtain⟨y,_,rfl,_⟩:=hv;exact⟨_,_,rfl⟩
 .obtain⟨y,c,_,rfl,_⟩:=hv;exact⟨_,_,rfl⟩
theorem VL.one (h:VL ι [x] vs):∃v,vs=[v]/\VR ι x v:=by
 simp only[VL]at h;obtain⟨v,r,rfl,a,rfl⟩:=h;exact⟨v,rfl,a⟩
theorem VL.two (h:VL ι [x,y] vs):∃v w,vs=[v,w]/\VR ι x v/\VR ι y w:=by
 simp only[VL]at h;obtain⟨v,r,rfl,a,w,g,rfl,d,rfl⟩:=h;exact⟨v,w,rfl,a,d⟩
noncomputable def BI (P:Program)(b:Builtin)(ats:Array TypeId)(ι:Io)(s:S)(h:Heap)(t:T)(s':S)(vs:List Value):Prop:=
 ∀(er:Env) (xs:Array Operand) (ty:TypeId),(xs.map (ev er)).toList=vs->aI P (.call ⟨.builtin b,xs,ats⟩) ty er h (Post P ι s h t s')
theorem Ob {b:Builtin}(H:∀F:Prop,lZ b vs ((ats[0]?).bind P.underlying) h (Post P ι s h t s') F):BI P b ats ι s h t s' vs:=by
 intro er xs ty a;refine aM ?_;rw[yz,a];exact H _
theorem zBB (ok:Ok P p)(H:Sim P ι s h)(hv:VR ι x v)(hd:ZW p s ats.toList x=some (t,s')):BI P .len ats ι s h t s' [v]:=by
 unfold ZW at hd;split at hd
 .rename_i j;split at hd
  .cases hd;obtain⟨u,ti,d,tf,q⟩:=ik ok j;simp only[VR]at hv;subst hv;have d:ats[0]? =some u:=by simpa using d
   refine Ob fun F=> ?_
   rw[d,kE,tf.string q];simp only[lZ];exact Post.pure H (by simp only[VR,lI];rfl)
  .cases hd
 .rename_i el j;split at hd
  .rename_i n A;cases hd;obtain⟨u,ti,d,tf,q⟩:=ik ok j;obtain⟨a,c,rfl⟩:=yK hv A;have d:ats[0]? =some u:=by simpa using d
   refine Ob fun F=> ?_
   rw[d,kE,tf.slice q];simp only[lZ];exact Post.pure H (by simp only[VR];rfl)
  .cases hd
 .rename_i W vt j;split at hd
  .rename_i n A;cases hd;obtain⟨u,ti,d,tf,q⟩:=ik ok j;have d:ats[0]? =some u:=by simpa using d
   have I:=tf.map q;unfold Te at A;intro er xs ty R;have g:xs.map (ev er)= #[v]:=by apply bz.1;simpa using R
   split at A
   .cases A;simp only[VR]at hv;subst hv;refine aK rfl (.int .i64 0) (Post.pure H (by simp only[VR];rfl)) fun w J=> ?_
    simp[execOp,resolve,invoke,builtin,Builtin.len_,g,d,run_underlying I,goInt]
   .rename_i b;simp only[VR]at hv;obtain⟨y,U,rfl⟩:=hv;split at A
    .rename_i es c O;cases A;obtain⟨y',Z,G,L,C⟩:=H.obj b _ O;rw[U]at G;cases G;obtain⟨B,rfl,N,V⟩:=C;have Q:B.size=es.length:=by
      rw[<-dC];have:∀{xs:List (T×T×Nat)} {l:List MapEntry},EL ι xs l->l.length=xs.length:=by
       intro xs;induction xs with
       |nil=>intro l h;have h:l=[]:=h;simp[h]
       |cons x xs ih=>intro l h;obtain⟨e,r,rfl,_,C⟩:=h;simp[ih C]
      exact this N
     refine aK rfl (.int .i64 es.length) (Post.pure H (by simp only[VR];rfl)) fun w J=> ?_
     subst J;simp[execOp,resolve,invoke,builtin,Builtin.len_,g,d,run_underlying I,goInt,getObj,Lj,L,cZ,Q]
    .cases A
   .cases A
  .cases hd
 .cases hd
theorem zBO (H:Sim P ι s h){w:Value}(hv:VR ι x v)(hw:VR ι y w)(hd:Yp s x y=some (t,s')):BI P .min ats ι s h t s' [v,w]:=by
 unfold Yp at hd;split at hd
 .rename_i k a j b;split at hd
  .rename_i g;simp only[Option.some.injEq,Prod.mk.injEq]at hd;obtain⟨rfl,rfl⟩:=hd;simp only[VR]at hv hw;subst hv hw;refine Ob fun F=> ?_
   simp only[lZ];refine Post.pure H ?_;simp only[VR,oU];congr 1;by_cases d:b<a<;>simp[d]
  .cases hd
 .cases hd
theorem zAT (H:Sim P ι s h){w:Value}(hv:VR ι x v)(hw:VR ι y w)(hd:Z8 s x y=some (t,s')):BI P .max ats ι s h t s' [v,w]:=by
 unfold Z8 at hd;split at hd
 .rename_i k a j b;split at hd
  .rename_i g;simp only[Option.some.injEq,Prod.mk.injEq]at hd;obtain⟨rfl,rfl⟩:=hd;simp only[VR]at hv hw;subst hv hw;refine Ob fun F=> ?_
   simp only[lZ];refine Post.pure H ?_;simp only[VR,oU];congr 1;by_cases d:a<b<;>simp[d]
  .cases hd
 .cases hd
end
end ops10
end Go.Run
namespace Go.Run
open Go Go.Eng
section ops11
variable {P:Program}{p:Pr}{ι:Io}{s s':S}{h:Heap}{m:Fm}{e:E}{er:Env}{ty:TypeId}{t:T}{K:Value->Heap->Prop}
theorem Ih (re:RE ι m e er)(H:Sim P ι s h){op:BinOp}{u yt:TypeId}{x y:Operand}{a b:List UInt8}(hx:opd m e x=some (.str a))(hy:opd m e y=some (.str b))
 (hb:JJ p op u (.str a) (.str b)=some t):aI P (.binOp op u x y yt) ty er h (Post P ι s h t s):=by
 replace hx:=ai re hx
 replace hy:=ai re hy
 simp only[VR]at hx hy;refine aM ?_;rw[rH,hx,hy];unfold JJ at hb;simp only at hb;unfold dF;simp only;exact VU hb fun u d=>Post.pure H d
end ops11
end Go.Run
namespace Go.Run
open Go Go.Eng
section ops12
variable {P:Program}{p:Pr}{ι:Io}{s s':S}{h:Heap}{m:Fm}{e:E}{er:Env}{ty:TypeId}{t:T}{K:Value->Heap->Prop}
section
variable {el:TypeId}{op:BinOp}{u:TypeId}{x y:Operand}{yt:TypeId}
theorem jS (u:TypeId)(x y:Value):xR u x y=qf (9999+1) u x y:=rfl
theorem PQ (hu:P.underlying u=some .bool)(a b:Bool)(w:World):(xR u (.bool a) (.bool b)).run P w= .ok (a==b) w:=by
 rw[jS];generalize 9999=d;simp[qf,run_underlying hu]
theorem Tv (hu:P.underlying u=some (.slice el))(a:Option Addr)(n c:Nat)(w:World):(xR u (.slice a n c) (.slice none 0 0)).run P w= .ok a.isNone w:=by
 rw[jS];generalize 9999=d;cases a<;>simp[qf,run_underlying hu]
theorem Z6 {k v:TypeId}(hu:P.underlying u=some (.map k v))(a:Option Nat)(w:World):(xR u (.map a) (.map none)).run P w= .ok a.isNone w:=by
 rw[jS];generalize 9999=d;cases a<;>simp[qf,run_underlying hu]
theorem Xr (hu:P.underlying u=some (.pointer el))(a:Option Addr)(w:World):(xR u (.pointer a) (.pointer none)).run P w= .ok a.isNone w:=by
 rw[jS];generalize 9999=d;cases a<;>simp[qf,run_underlying hu]
theorem Af {a b:Value}{r:Bool}(hx:ev er x=a)(hy:ev er y=b)(H:Sim P ι s h)(ho:op= .eql\/op= .neq)(hg:∀w,(eqGuard op u x y a b).run P w= .ok () w)(hb:∀w,(binOp op u a b).run P w= .ok (.bool (if op= .eql then r else !r)) w):
 aI P (.binOp op u x y yt) ty er h (Post P ι s h (.bool (if op= .eql then r else !r)) s):=by
 refine aK rfl (.bool (if op= .eql then r else !r)) (Post.pure H (by simp only[VR])) fun w _=> ?_
 simp[execOp,hx,hy,hg,hb]
theorem opn {b:Bool}(hf:(match op with| .eql=>some (T.bool b)| .neq=>some (T.bool (!b))|_=>none)=some t):(op= .eql\/op= .neq)/\t= .bool (if op= .eql then b else !b):=by
 cases op<;>simp at hf<;>subst hf<;>simp
theorem Qw {a b:Bool}(hu:P.underlying u=some .bool)(hx:ev er x= .bool a)(hy:ev er y= .bool b)(H:Sim P ι s h)(ho:op= .eql\/op= .neq):
 aI P (.binOp op u x y yt) ty er h (Post P ι s h (.bool (if op= .eql then(a==b)else !(a==b))) s):=by
 refine Af hx hy H ho ?_ ?_
 .intro w;rcases ho with rfl|rfl<;>simp[eqGuard]
 .intro w;rcases ho with rfl|rfl<;>simp[binOp,PQ hu]
theorem Ms {a:Option Addr}{n c:Nat}(hu:P.underlying u=some (.slice el))(hx:ev er x= .slice a n c)(hy:ev er y= .slice none 0 0)(H:Sim P ι s h)(ho:op= .eql\/op= .neq):
 aI P (.binOp op u x y yt) ty er h (Post P ι s h (.bool (if op= .eql then a.isNone else !a.isNone)) s):=by
 refine Af hx hy H ho ?_ ?_
 .intro w;rcases ho with rfl|rfl<;>simp[eqGuard]
 .intro w;rcases ho with rfl|rfl<;>simp[binOp,Tv hu]
theorem Gy {k v:TypeId}{a:Option Nat}(hu:P.underlying u=some (.map k v))(hx:ev er x= .map a)(hy:ev er y= .map none)(H:Sim P ι s h)(ho:op= .eql\/op= .neq):
 aI P (.binOp op u x y yt) ty er h (Post P ι s h (.bool (if op= .eql then a.isNone else !a.isNone)) s):=by
 refine Af hx hy H ho ?_ ?_
 .intro w;rcases ho with rfl|rfl<;>simp[eqGuard]
 .intro w;rcases ho with rfl|rfl<;>simp[binOp,Z6 hu]
theorem JI {a:Option Addr}(hu:P.underlying u=some (.pointer el))(hx:ev er x= .pointer a)(hy:ev er y= .pointer none)(H:Sim P ι s h)(ho:op= .eql\/op= .neq):
 aI P (.binOp op u x y yt) ty er h (Post P ι s h (.bool (if op= .eql then a.isNone else !a.isNone)) s):=by
 refine Af hx hy H ho ?_ ?_
 .intro w;rcases ho with rfl|rfl<;>simp[eqGuard]
 .intro w;rcases ho with rfl|rfl<;>simp[binOp,Xr hu]
end
end ops12
end Go.Run
namespace Go.Run
open Go Go.Eng
section ops13
variable {P:Program}{p:Pr}{ι:Io}{s s':S}{h:Heap}{m:Fm}{e:E}{er:Env}{ty:TypeId}{t:T}{K:Value->Heap->Prop}
section
variable {u:TypeId}{xs:Array (Nat×Operand)}
noncomputable def PL (ι:Io):List (Nat×T)->List (Nat×Value)->Prop
 |[],l=>l=[]
 |x::xs,l=>∃v r,l=(x.1,v)::r/\VR ι x.2 v/\PL ι xs r
theorem uU {pl:Nat->Option (Nat×Nat)}:∀{parts:List (Nat×T)} {ps:List (Nat×Value)} {cs:List T} {us:List Value} {r:List T},PL ι parts ps->VL ι cs us->vH pl cs parts=some r->
 ∃ws,jK pl us ps=some ws/\VL ι r ws
 |[],ps,cs,us,r,hp,hv,hf=>by
  simp only[PL]at hp;subst hp;simp only[vH,Option.some.injEq]at hf;subst hf;exact⟨us,rfl,hv⟩
 |(i,v)::parts,ps,cs,us,r,hp,hv,hf=>by
  simp only[PL]at hp;obtain⟨w,q,rfl,A,B⟩:=hp;simp only[vH]at hf;split at hf
  .rename_i H a d;split at hf
   .rename_i g;simp only[aF]at g;obtain⟨⟨c1,c2⟩,c3⟩:=g;have c2:=aC c2;have c3:=aH.1 c3;have j:=dw A c1;have C:=j.length;have G:w.cells.size=a:=by rw[<-c2,<-C];simp
    obtain⟨ws,q1,q2⟩:=uU B (hv.spl j (by rw[c2];exact c3)) hf;refine⟨ws,?_,q2⟩;simp only[jK,d];rw[if_pos ⟨G,by rw[hv.length];exact c3⟩];exact q1
   .cases hf
  .cases hf
theorem qj (re:RE ι m e er):∀{xs:List (Nat×Operand)} {ts:List (Nat×T)},oZ m e xs=some ts->PL ι ts (xs.map fun(i,x)=>(i,ev er x))
 |[],ts,hx=>by simp only[oZ,Option.some.injEq]at hx;subst hx;simp[PL]
 |(i,x)::xs,ts,hx=>by
  simp only[oZ]at hx;split at hx
  .rename_i a r d g;cases hx;simp only[lT,PL];exact⟨_,_,rfl,ai re d,qj re g⟩
  .cases hx
theorem Bt (ok:Ok P p)(H:Sim P ι s h){ti:TI}{fs:List (Nat×TypeId×Nat)}(tf:TF P u ti)(hdd:ti.d= .lV fs)(hz:jE ti.zero=true)(hok:jh P u=true){parts:List (Nat×T)}{r:List T}(hp:PL ι parts (xs.toList.map fun(i,x)=>(i,ev er x)))(hf:vH (fun i=>(mV fs i).map fun(o,_,z)=>(o,z)) (dV ti.zero) parts=some r):
 aI P (.build u xs) ty er h (Post P ι s h (.agg r) s):=by
 obtain⟨z,q,A⟩:=tf.zero;obtain⟨g,j,rfl⟩:=tf.lV hdd;have a:(fun i=>(mV (g.toList.map fun f=>(f.offset,f.type,szT P f.type)) i).map fun(o,_,z)=>(o,z))=mF P u:=by
  funext i;simp only[mV,rV,mF,j];cases hg:g[i]? with
  |none=>simp[hg]
  |some fd=>
   have B:(P.info? fd.type).isSome=true:=by
    unfold jh at hok;rw[j]at hok;exact Array.all_eq_true_iff_forall_mem.1 hok fd (Array.mem_of_getElem? hg)
   simp[hg,B]
 rw[a]at hf;obtain⟨C,q1,q2⟩:=uU hp (dw (A ι) hz) hf;refine aM ?_;rw[EK,hok,q,Ee];have:(xs.map fun(i,x)=>(i,ev er x)).toList=xs.toList.map fun(i,x)=>(i,ev er x):=by simp
 rw[this,q1,Ai];exact Post.pure H (by simp only[VR];exact⟨_,rfl,by simpa using q2⟩)
theorem Cz (ok:Ok P p)(H:Sim P ι s h){el:TypeId}{n:Nat}{ti ei:TI}(tf:TF P u ti)(te:TF P el ei)(hdd:ti.d= .array n el)(hz:jE ti.zero=true){parts:List (Nat×T)}{r:List T}(hp:PL ι parts (xs.toList.map fun(i,x)=>(i,ev er x)))(hf:vH (fun i=>some (i*ei.size,ei.size)) (dV ti.zero) parts=some r):
 aI P (.build u xs) ty er h (Post P ι s h (.agg r) s):=by
 obtain⟨z,a,j⟩:=tf.zero;obtain⟨A,hi,q,_⟩:=te.info;obtain⟨B,q1,q2⟩:=uU hp (dw (j ι) hz) hf;have q3:=vL _ _ _ q1;refine aK rfl (.agg B.toArray) (Post.pure H (by simp only[VR];exact⟨_,rfl,by simpa using q2⟩)) fun w _=> ?_
 have g:(zeroValue u).run P w= .ok z w:=by
  unfold dJ at a;cases hi:P.info? u with
  |none=>simp[hi]at a
  |some i=>simp only[hi,kE]at a;simp[zeroValue,typeInfo,hi,a]
 simp only[execOp,Instr.build,aY,g,aN,run_underlying (tf.array hdd)];simp[sizeOf,typeInfo,hi,q,q3]
theorem V5 (ok:Ok P p)(re:RE ι m e er)(H:Sim P ι s h)(hd:vX p m e s u xs=some (t,s')):aI P (.build u xs) ty er h (Post P ι s h t s'):=by
 unfold vX at hd;split at hd
 .rename_i L j;obtain⟨a,rfl⟩:=fD hd;have B:=qj re j;unfold Rz at a;split at a
  .rename_i ti A;have tf:=ok.tf A;split at a
   .cases a
   .rename_i C;split at a
    .rename_i I d;obtain⟨r,q,rfl⟩:=kS.1 a;obtain⟨J,G,_⟩:=tf.lV d;exact Bt ok H tf d C (by have:=tf.okf _ G;exact this) B q
    .rename_i n el d;split at a
     .rename_i ei g;obtain⟨r,q,rfl⟩:=kS.1 a;exact Cz ok H tf (ok.tf g) d C B q
     .cases a
    .cases a
  .cases a
 .cases hd
end
end ops13
end Go.Run
namespace Go.Run
open Go Go.Eng
section ops14
variable {P:Program}{p:Pr}{ι:Io}{s s':S}{h:Heap}{m:Fm}{e:E}{er:Env}{ty:TypeId}{t:T}{K:Value->Heap->Prop}
section
variable {u:TypeId}
theorem uO {l:List T}{us:List Value}(H:VL ι l us):∀n,VL ι (rep n l) (aZ n us).flatten
 |0=>by simp[rep,VL]
 |n+1=>by
  rw[rep,zm,qb];exact H.append (uO H n)
theorem GU (ok:Ok P p)(re:RE ι m e er)(H:Sim P ι s h){n:Nat}{xs:Array (Nat×Operand)}(hd:fO p m e s u n xs=some (t,s')):aI P (.buildSlice u n xs) ty er h (Post P ι s h t s'):=by
 unfold fO at hd;split at hd
 .rename_i W j;have O:=qj re j;unfold Eu at hd;split at hd
  .rename_i ti q;have tf:=ok.tf q;split at hd
   .rename_i el d;split at hd
    .rename_i ei g;have I:=ok.tf g;split at hd
     .rename_i C;simp only[aF]at C;obtain⟨⟨⟨c0,c1⟩,c2⟩,c3⟩:=C;have c1:=aC c1;have c2:=aH.1 c2;have c3:=aH.1 c3;split at hd
      .rename_i cs a;cases hd;obtain⟨z,R,U⟩:=I.zero;have G:=dw (U ι) c0;obtain⟨Q,q1,q2⟩:=uU O (uO G n) a;refine aM ?_;rw[lH,tf.slice d];have:(xs.map fun(i,x)=>(i,ev er x)).toList=xs.toList.map fun(i,x)=>(i,ev er x):=by simp
       rw[this];simp only[Ey,R,I.size];refine⟨by rw[<-c1,<-G.length];simp,by omega,c3,?_⟩;rw[fJ];refine⟨Q,q1,?_⟩;have:=AC H (ct:=el) q2;obtain⟨V,J,L,A⟩:=this;simp only[VR]at A;obtain⟨y,N,B⟩:=A;refine⟨V,J,L,?_⟩;simp only[VR];simp only[Value.pointer.injEq,Option.some.injEq,Addr.mk.injEq]at B;exact⟨y,N,by rw[B.1]⟩
      .cases hd
     .cases hd
    .cases hd
   .cases hd
  .cases hd
 .cases hd
theorem Ra (H:Sim P ι s h){cs:List T}{us:List Value}{ct:TypeId}{n c:Nat}(hv:VL ι cs us):
 Post P ι s h (.slice s.nx 0 n c) (fM s (.row cs ct false)) (.slice (some ⟨h.size,0,none⟩) n c) (h.push (.cells us.toArray ct)):=by
 obtain⟨A,g,j,a⟩:=AC H (ct:=ct) hv;simp only[VR]at a;obtain⟨y,q,d⟩:=a;refine⟨A,g,j,?_⟩;simp only[VR];simp only[Value.pointer.injEq,Option.some.injEq,Addr.mk.injEq]at d;exact⟨y,q,by rw[d.1]⟩
theorem Gu {ti:TI}(H:TF P u ti):iA P u=ti.bytes:=by
 obtain⟨i,a,_,d⟩:=H.info;simp[iA,a,d]
theorem Ja (ok:Ok P p)(re:RE ι m e er)(H:Sim P ι s h){l c:Operand}(hd:gH p m e s u l c=some (t,s')):aI P (.makeSlice u l c) ty er h (Post P ι s h t s'):=by
 unfold gH at hd;split at hd
 .rename_i q n N k ti g a B;have tf:=ok.tf B
  replace g:=ai re g
  replace a:=ai re a
  simp only[VR]at g a;split at hd
  .rename_i el n k j;simp only[bL]at g a;unfold BD at hd;split at hd
   .rename_i ei A;have C:=ok.tf A;split at hd
    .rename_i d;cases hd;simp only[aF]at d;obtain⟨⟨⟨⟨⟨c0,c1⟩,c2⟩,c3⟩,c4⟩,c5⟩:=d;have c1:=aC c1;have c2:=aH.1 c2;have c3:=aH.1 c3;have c4:=aH.1 c4;have c5:=aH.1 c5;obtain⟨z,I,J⟩:=C.zero;have G:=dw (J ι) c0;have L:k<=1000000:=fw (Nat.le_mul_of_pos_right k c2) c4;refine aM ?_;rw[nA,g,a,tf.slice j];simp only[FV,I,C.size,Gu C];refine⟨by rw[<-c1,<-G.length];simp,by omega,by omega,by omega,?_,by omega,?_⟩
     .have:(k:Int)*(ei.bytes:Int)=((k*ei.bytes:Nat):Int):=by simp
      rw[this];omega
     .exact Ra H (uO G k)
    .cases hd
   .cases hd
  .cases hd
 .cases hd
end
end ops14
end Go.Run
namespace Go.Run
open Go Go.Eng
section ops15
variable {P:Program}{p:Pr}{ι:Io}{s s':S}{h:Heap}{m:Fm}{e:E}{er:Env}{ty:TypeId}{t:T}{K:Value->Heap->Prop}
section
variable {b cap:Nat}{ei:TI}{el:TypeId}{hi:Option Operand}{hv:Option T}{k l:Nat}{lo:Option Operand}{lv mv:Option T}{mx:Option Operand}{r:Nat}{u:TypeId}{x:Operand}{y:Inf}
theorem JS {n:Int}{len j:Nat}(h:leR n len=some j):n=j/\j<=len:=by
 unfold leR at h;split at h
 .split at h
  .rename_i a;cases h;exact⟨rfl,aH.1 a⟩
  .cases h
 .cases h
noncomputable def OV (ι:Io):Option T->Option Value->Prop
 |none,v=>v=none
 |some t,v=>∃u,v=some u/\VR ι t u
theorem Ew (re:RE ι m e er){x:Option Operand}{o:Option T}(hx:wL m e x=some o):OV ι o (x.map (ev er)):=by
 cases x with
 |none=>simp only[wL,Option.some.injEq]at hx;subst hx;simp[OV]
 |some x=>
  simp only[wL]at hx;split at hx
  .rename_i a d;cases hx;exact⟨_,rfl,ai re d⟩
  .cases hx
theorem lU {v:Option T}{vv:Option Value}{d hi:Nat}(hv:OV ι v vv)(hb:Mt v d hi=some r):Eng.bnd vv d=some (r:Int)/\r<=hi:=by
 unfold Mt at hb;split at hb
 .simp only[OV]at hv;subst hv;obtain⟨a,g⟩:=JS hb;simp only[bL]at a;exact⟨by simp only[Eng.bnd];rw[a],g⟩
 .obtain⟨u,rfl,a⟩:=hv;simp only[VR]at a;obtain⟨g,j⟩:=JS hb;subst a g;exact⟨rfl,j⟩
 .cases hb
theorem qX {lo hi:Option T}{lv hv:Option Value}{len top:Nat}(hl:OV ι lo lv)(hh:OV ι hi hv)(hb:nN lo hi none len top=some (l,r,k)):
 Eng.bnd lv 0=some (l:Int)/\Eng.bnd hv len=some (r:Int)/\k=top/\l<=r/\r<=top:=by
 unfold nN at hb;simp only at hb;split at hb
 .rename_i C q;split at hb
  .rename_i B A;cases hb;obtain⟨a,d⟩:=lU hh q;obtain⟨g,j⟩:=lU hl A;exact⟨g,a,rfl,j,d⟩
  .cases hb
 .cases hb
theorem yN {lo hi mx:Option T}{lv hv mv:Option Value}{len top:Nat}(hl:OV ι lo lv)(hh:OV ι hi hv)(hm:OV ι mx mv)(hmx:mx≠none)(hb:nN lo hi mx len top=some (l,r,k)):
 ∃u w,hv=some u/\mv=some w/\Eng.bnd lv 0=some (l:Int)/\Eng.bnd (some u) len=some (r:Int)/\Eng.bnd (some w) cap=some (k:Int)/\l<=r/\r<=k/\k<=top:=by
 unfold nN at hb;split at hb
 .exact absurd rfl hmx
 .rename_i I;split at hb
  .cases hb
  .rename_i a;obtain⟨u,rfl,G⟩:=hh;obtain⟨w,rfl,H⟩:=hm;split at hb
   .rename_i J A;split at hb
    .rename_i N B;split at hb
     .rename_i L C;cases hb;obtain⟨c1,c2⟩:=lU (v:=some I) (vv:=some w) ⟨w,rfl,H⟩ A;obtain⟨d,g⟩:=lU (v:=some a) (vv:=some u) ⟨u,rfl,G⟩ B;obtain⟨j,q⟩:=lU hl C;refine⟨u,w,rfl,rfl,j,?_,?_,q,g,c2⟩
      .revert d;unfold Eng.bnd;cases u<;>simp
      .revert c1;unfold Eng.bnd;cases w<;>simp
     .cases hb
    .cases hb
   .cases hb
theorem Yw {a:Option Addr}{len:Nat}(hu:P.underlying u=some (.slice el))(te:TF P el ei)(hx:ev er x= .slice a len cap)(hl:Eng.bnd (lo.map (ev er)) 0=some (l:Int))(hr:Eng.bnd (hi.map (ev er)) len=some (r:Int))(h1:l<=r)(h2:r<=cap)(hk:K (.slice (if cap=l then a else lg a (l*ei.size)) (r-l) (cap-l)) h):aI P (.slice u x lo hi none) ty er h K:=by
 refine aM ?_;rw[ng,hu,hx,GL,HZ,hl,hr,rD te.isSome,te.size];refine⟨by omega,by omega,by omega,by omega,?_⟩;have d:((r:Int)-(l:Int)).toNat=r-l:=by omega
 have g:((cap:Int)-(l:Int)).toNat=cap-l:=by omega
 have j:((cap:Int)=(l:Int))=(cap=l):=propext Ma;simp only[d,g,j,uA];exact hk
theorem TU {mx:Operand}{hi:Operand}{a:Option Addr}{len:Nat}(hu:P.underlying u=some (.slice el))(te:TF P el ei)(hx:ev er x= .slice a len cap)(hl:Eng.bnd (lo.map (ev er)) 0=some (l:Int))(hr:Eng.bnd (some (ev er hi)) len=some (r:Int))(hm:Eng.bnd (some (ev er mx)) cap=some (k:Int))(h1:l<=r)(h2:r<=k)(h3:k<=cap)(hk:K (.slice (if k=l then a else lg a (l*ei.size)) (r-l) (k-l)) h):aI P (.slice u x lo (some hi) (some mx)) ty er h K:=by
 refine aM ?_;rw[ng,hu,hx,sw,sw,BU,hl,hr,hm,rD te.isSome,te.size];refine⟨by omega,by omega,by omega,by omega,?_⟩;have d:((r:Int)-(l:Int)).toNat=r-l:=by omega
 have g:((k:Int)-(l:Int)).toNat=k-l:=by omega
 have j:((k:Int)=(l:Int))=(k=l):=propext Ma;simp only[d,g,j,uA];exact hk
theorem vg {o sz:Nat}(hy:ι b=some y):VR ι (QJ b o sz l r k) (.slice (if k=l then some ⟨y.r,o,none⟩else lg (some ⟨y.r,o,none⟩) (l*sz)) (r-l) (k-l)):=by
 unfold QJ;simp only[VR];refine⟨y,hy,?_⟩;by_cases a:k=l
 .subst a;simp
 .have:aX k l=false:=by cases hb:aX k l with|false=>rfl|true=>exact absurd (aC hb) a
  rw[this,if_neg a,gK]
theorem OM {o sz:Nat}(hy:ι b=some y)(h1:l<=r)(h2:r<=k):VR ι (V8 b o sz l r) (.slice (if k=l then some ⟨y.r,o,none⟩else lg (some ⟨y.r,o,none⟩) (l*sz)) (r-l) (k-l)):=by
 unfold V8;by_cases d:l<r
 .rw[bX.2 d,if_neg (by omega),gK];simp only[VR];exact⟨y,_,hy,rfl,by omega⟩
 .have:kV l r=false:=by cases hb:kV l r with|false=>rfl|true=>exact absurd (bX.1 hb) d
  rw[this];simp only[VR];have g:r-l=0:=by omega
  rw[g];by_cases a:k=l
  .rw[if_pos a];exact⟨_,_,rfl⟩
  .rw[if_neg a,gK];exact⟨_,_,rfl⟩
theorem map_none {x:Option Operand}(h:x.map (ev er)=none):x=none:=by cases x<;>simp_all
theorem map_some {x:Option Operand}{v:Value}(h:x.map (ev er)=some v):∃o,x=some o/\ev er o=v:=by cases x<;>simp_all
theorem Pi (H:Sim P ι s h)(te:TF P el ei){len:Nat}(hy:ι b=some y)(hl:len<=y.cap):Ld s el ei.size b len<=y.cap:=by
 unfold Ld;split
 .rename_i cs C A;split
  .rename_i d;simp only[aF]at d;obtain rfl:=aC d.1;have G:=aH.1 d.2;obtain⟨q,I,g,B,j⟩:=qZ H A hy;obtain⟨_,a,_⟩:=j.2 rfl;rw[te.size]at a;show cs.length/ei.size<=y.cap;apply Nat.div_le_of_le_mul;rw[Nat.mul_comm,<-a];exact g
  .exact hl
 .exact hl
theorem ZE (H:Sim P ι s h){xv:T}(hu:P.underlying u=some (.slice el))(te:TF P el ei)(hx:VR ι xv (ev er x))(hl:OV ι lv (lo.map (ev er)))(hh:OV ι hv (hi.map (ev er)))(hm:OV ι mv (mx.map (ev er)))(hd:ZN s el ei.size xv lv hv mv=some t):aI P (.slice u x lo hi mx) ty er h (Post P ι s h t s):=by
 have two:∀{a:Option Addr} {len cap A l r k:Nat},mv=none->ev er x= .slice a len cap->nN lv hv mv len A=some (l,r,k)->A<=cap->
  (l<=r->r<=A->VR ι t (.slice (if cap=l then a else lg a (l*ei.size)) (r-l) (cap-l)))->aI P (.slice u x lo hi mx) ty er h (Post P ι s h t s):=by
  intro a len cap A l r k G B I O J;subst G;simp only[OV]at hm;obtain rfl:=map_none hm;obtain⟨L,N,_,b4,b5⟩:=qX hl hh I;exact Yw hu te B L N b4 (by omega) (Post.pure H (J b4 b5))
 have g:∀{a:Option Addr} {len cap A l r k:Nat},mv≠none->ev er x= .slice a len cap->nN lv hv mv len A=some (l,r,k)->A<=cap->
  (VR ι t (.slice (if k=l then a else lg a (l*ei.size)) (r-l) (k-l)))->aI P (.slice u x lo hi mx) ty er h (Post P ι s h t s):=by
  intro a len cap A l r k G B I O J;obtain⟨v,w,c1,c2,L,N,b3,b4,b5,b6⟩:=yN (cap:=cap) hl hh hm G I;obtain⟨R,rfl,rfl⟩:=map_some c1;obtain⟨U,rfl,rfl⟩:=map_some c2;exact TU hu te B L N b3 b4 b5 (by omega) (Post.pure H J)
 unfold ZN at hd;split at hd
 .split at hd
  .rename_i q j;cases hd;obtain⟨l,r,k⟩:=q;simp only[VR]at hx;by_cases G:mv=none
   .refine two G hx j (bi 0) fun B I=> ?_
    have:r=0:=by omega
    subst this;simp[VR,lg]
   .refine g G hx j (bi 0) ?_;obtain⟨v,w,c1,c2,L,N,b3,b4,b5,b6⟩:=yN (cap:=0) hl hh hm G j;have:k=0:=by omega
    subst this;have:r=0:=by omega
    subst this;simp[VR,lg]
  .cases hd
 .split at hd
  .rename_i q j;cases hd;obtain⟨l,r,k⟩:=q;simp only[VR]at hx;obtain⟨a,c,hx⟩:=hx;refine two rfl hx j (Nat.zero_le _) fun B I=> ?_
   have O:r=0:=by omega
   have J:l=0:=by omega
   subst O J;simp only[VR,zx,lg,sw,Cm,if_true,ite_self];exact⟨_,_,rfl⟩
  .cases hd
 .split at hd
  .rename_i l r k j;cases hd;simp only[VR]at hx;obtain⟨y,C,hx⟩:=hx;by_cases G:mv=none
   .subst G;have Q:=(qX hl hh j).2.2.1;subst Q;exact two rfl hx j (bi _) fun B I=>vg C
   .exact g G hx j (bi _) (vg C)
  .cases hd
 .split at hd
  .rename_i b len l r k j;simp only[VR]at hx;obtain⟨y,C,hx,d⟩:=hx;have d:=Pi H te C d;split at hd
   .split at hd
    .cases hd;refine two rfl hx j d fun B I=> ?_
     simp only[VR,zx,gK,ko,ite_self,Ol];exact⟨y,C,rfl,by omega⟩
    .cases hd;exact two rfl hx j d fun B I=>OM C B (by omega)
   .cases hd;exact g (by simp) hx j d (vg C)
  .cases hd
 .split at hd
  .rename_i b o len l r k j;simp only[VR]at hx;obtain⟨y,c,C,hx,d⟩:=hx;split at hd
   .split at hd
    .cases hd;refine two rfl hx j d fun B I=> ?_
     simp only[VR,zx,gK,ko,ite_self,Ol];exact⟨y,_,C,rfl,by omega⟩
    .cases hd;exact two rfl hx j d fun B I=>OM C B (by omega)
   .cases hd;exact g (by simp) hx j d (vg C)
  .cases hd
 .cases hd
theorem Vq (H:Sim P ι s h){a:List UInt8}(hu:P.underlying u=some .string)(hx:ev er x= .string ⟨⟨a⟩⟩)(hl:OV ι lv (lo.map (ev er)))(hh:OV ι hv (hi.map (ev er)))(hm:OV ι mv (mx.map (ev er)))(hd:Uk a lv hv mv=some t):aI P (.slice u x lo hi mx) ty er h (Post P ι s h t s):=by
 unfold Uk at hd;split at hd
 .rename_i l r k j;cases hd;simp only[OV]at hm;obtain rfl:=map_none hm;obtain⟨d,g,_,b4,b5⟩:=qX hl hh j;refine aM ?_;rw[ng,hu,hx,GL,Jz,lI,d,g,Dr];refine⟨by omega,by omega,by simp only[lI];omega,Post.pure H ?_⟩;simp only[VR,uA];congr 1;apply ByteArray.ext;rw[ByteArray.data_extract];apply bz.1;simp[rM,List.extract]
 .cases hd
theorem WY (H:Sim P ι s h){n:Nat}{xv:T}(hu:P.underlying u=some (.array n el))(te:TF P el ei)(hx:VR ι xv (ev er x))(hl:OV ι lv (lo.map (ev er)))(hh:OV ι hv (hi.map (ev er)))(hm:OV ι mv (mx.map (ev er)))(hd:TK ei.size n xv lv hv mv=some t):aI P (.slice u x lo hi mx) ty er h (Post P ι s h t s):=by
 unfold TK at hd;split at hd
 .rename_i b o;split at hd
  .rename_i l r k A;cases hd;simp only[OV]at hm;obtain rfl:=map_none hm;obtain⟨a,d,rfl,b4,b5⟩:=qX hl hh A;simp only[VR]at hx;obtain⟨y,B,hx⟩:=hx;refine aM ?_;rw[ng,hu,hx,GL,Jc,a,d,rD te.isSome,te.size];refine⟨by omega,by omega,by omega,by omega,?_⟩;have g:((r:Int)-(l:Int)).toNat=r-l:=by omega
   have j:((k:Int)-(l:Int)).toNat=k-l:=by omega
   have q:((k:Int)=(l:Int))=(k=l):=propext Ma;simp only[g,j,q,uA];exact Post.pure H (vg B)
  .cases hd
 .cases hd
theorem Vz (ok:Ok P p)(re:RE ι m e er)(H:Sim P ι s h)(hd:ul p m e s u x lo hi mx=some (t,s')):aI P (.slice u x lo hi mx) ty er h (Post P ι s h t s'):=by
 unfold ul at hd;split at hd
 .rename_i G lv hv mv j A q B;obtain⟨a,rfl⟩:=fD hd
  replace j:=ai re j
  replace A:=Ew re A
  replace q:=Ew re q
  replace B:=Ew re B
  unfold Hm at a;split at a
  .rename_i ti C;have tf:=ok.tf C;split at a
   .rename_i d;split at a
    .simp only[VR]at j;exact Vq H (tf.string d) j A q B a
    .cases a
   .rename_i el d;split at a
    .rename_i ei g;exact ZE H (tf.slice d) (ok.tf g) j A q B a
    .cases a
   .rename_i n el d;split at a
    .rename_i ei g;exact WY H (tf.array d) (ok.tf g) j A q B a
    .cases a
   .cases a
  .cases a
 .cases hd
end
end ops15
end Go.Run
namespace Go.Run
open Go Go.Eng
section ops16
variable {P:Program}{p:Pr}{ι:Io}{s s':S}{h:Heap}{m:Fm}{e:E}{er:Env}{ty:TypeId}{t:T}{K:Value->Heap->Prop}
section
variable {c:Sc}{op:BinOp}{r:Bool}{ti:TI}{u:TypeId}{v w:Value}{x y:Operand}{yt:TypeId}
theorem xu (h:scT P u=some c):P.plainKey u=true:=by
 unfold scT at h;unfold Program.plainKey;split at h<;>simp_all
theorem uB (a b:List UInt8):((⟨⟨a⟩⟩:ByteArray)==⟨⟨b⟩⟩)=uR a b:=by
 rw[kI,mD,MapKept.bytes_beq,str_eq,decide_eq_true_iff]
theorem za (a b:Int):(a==b)=yF a b:=by
 rw[mU,mD,beq_iff_eq,decide_eq_true_iff]
theorem TM {x y:T}(hu:scT P u=some c)(hv:VR ι x v)(hw:VR ι y w)(he:ry c x y=some r)(d:Nat)(W:World):(qf (d+1) u v w).run P W= .ok r W:=by
 unfold ry at he;unfold scT at hu;split at he
 .split at hu<;>cases hu;rename_i q a;split at he
  .rename_i g;cases he;simp only[VR]at hv hw;subst hv hw;obtain rfl:=jR g;simp[qf,run_underlying a,za]
  .cases he
 .split at hu<;>cases hu;rename_i a;cases he;simp only[VR]at hv hw;subst hv hw;simp[qf,run_underlying a]
 .split at hu<;>cases hu;rename_i a;cases he;simp only[VR]at hv hw;subst hv hw;simp[qf,run_underlying a,uB]
 .cases he
theorem Fv {x y:T}(hv:VR ι x v)(hw:VR ι y w)(he:ry c x y=some true):v=w:=by
 unfold ry at he;split at he
 .split at he
  .rename_i a;simp only[VR]at hv hw;obtain rfl:=jR a;rw[mU]at he;simp only[Option.some.injEq,decide_eq_true_iff]at he;rw[hv,hw,he]
  .cases he
 .simp only[VR]at hv hw;simp only[Option.some.injEq,beq_iff_eq]at he;rw[hv,hw,he]
 .simp only[VR]at hv hw;rw[kI]at he;simp only[Option.some.injEq,decide_eq_true_iff]at he;rw[hv,hw,he]
 .cases he
theorem VL.cons' {c:T}{cs:List T}{vs:List Value}(h:VL ι (c::cs) vs):∃v r,vs=v::r/\VR ι c v/\VL ι cs r:=by simpa only[VL]using h
theorem Ec {α:Type}{l:List α}{i:Nat}{v:α}{r:List α}(h:l.drop i=v::r):l[i]? =some v/\l.drop (i+1)=r:=by
 have a:(l.drop i)[0]? =some v:=by rw[h];rfl
 rw[List.getElem?_drop]at a;refine⟨by simpa using a,?_⟩;have d:(l.drop i).drop 1=r:=by rw[h];rfl
 rw[rA]at d;exact d
theorem Ap:∀{s1 s2:List Sc} {cs ds:List T} {r:Bool},gZ (s1++s2) cs ds=some r->∃q,gZ s1 (cs.take s1.length) (ds.take s1.length)=some q/\(q=true->gZ s2 (cs.drop s1.length) (ds.drop s1.length)=some r)/\(q=false->r=false)
 |[],s2,cs,ds,r,h=>⟨true,by simp[gZ],fun _=>by simpa using h,fun h=>by cases h⟩
 |c::s1,s2,cs,ds,r,h=>by
  cases cs with
  |nil=>simp[gZ]at h
  |cons a cs=>
   cases ds with
   |nil=>simp[gZ]at h
   |cons b ds=>
    simp only[qp,gZ]at h;split at h
    .rename_i d;obtain⟨q,g,j,A⟩:=Ap h;exact⟨q,by simpa[gZ,d]using g,by simpa using j,A⟩
    .rename_i d;cases h;exact⟨false,by simp[gZ,d],⟨(fun h=>nomatch h),fun _=>rfl⟩⟩
    .cases h
noncomputable def EqG (P:Program)(ι:Io)(k:Nat):Prop:=∀u sc,flG P k u=some sc->∀(xs ys:Array Value) (off:Nat) (W:World) (cs ds:List T) (r:Bool),VL ι cs (xs.toList.drop off)->VL ι ds (ys.toList.drop off)->gZ sc (cs.take sc.length) (ds.take sc.length)=some r->
 ∃v w,(part u xs off).run P W= .ok v W/\(part u ys off).run P W= .ok w W/\∀d,(qf (d+k) u v w).run P W= .ok r W
theorem AR {k:Nat}(IH:EqG P ι k){xs ys:Array Value}(d:Nat)(W:World):∀{fs:List Field} {i:Nat} {sc:List Sc} {cs ds:List T} {r:Bool},flE P (flG P k) fs i=some sc->VL ι cs (xs.toList.drop i)->VL ι ds (ys.toList.drop i)->gZ sc cs ds=some r->
 (KW (d+k) xs ys fs).run P W= .ok r W
 |[],i,sc,cs,ds,r,hf,hc,hd,hb=>by
  simp only[flE,Option.some.injEq]at hf;subst hf;cases cs<;>cases ds<;>simp only[gZ,Option.some.injEq,reduceCtorEq]at hb;subst hb;simp[KW]
 |f::fs,i,sc,cs,ds,r,hf,hc,hd,hb=>by
  simp only[flE]at hf;split at hf
  .rename_i c a G;split at hf
   .rename_i C H;cases hf;simp only[aF,bne_iff_ne,ne_eq]at a;obtain⟨a,g⟩:=a;have g:=aC g;obtain⟨q,q1,q2,q3⟩:=Ap hb;obtain⟨v,w,A,B,j⟩:=IH f.type c G xs ys f.offset W cs ds q (by rw[g];exact hc) (by rw[g];exact hd) q1;have j:=j d;cases q with
    |true=>
     have I:=AR IH d W H (by have:=VL.drop c.length hc;rwa[rA]at this) (by have:=VL.drop c.length hd;rwa[rA]at this) (q2 rfl);simp only[KW,a,ne_eq,not_false_eq_true,if_true,aY,A,B,j,aN];simpa using I
    |false=>
     rw[q3 rfl];simp only[KW,a,ne_eq,not_false_eq_true,if_true,aY,A,B,j,aN];simp
   .cases hf
  .cases hf
theorem DR {k:Nat}(IH:EqG P ι k){xs ys:Array Value}{el:TypeId}{c:List Sc}(hel:flG P k el=some c)(d:Nat)(W:World):∀{n i:Nat} {cs ds:List T} {r:Bool},VL ι cs (xs.toList.drop (i*c.length))->VL ι ds (ys.toList.drop (i*c.length))->gZ (aZ n c).flatten cs ds=some r->
 (Od (d+k) el c.length xs ys (PR i n)).run P W= .ok r W
 |0,i,cs,ds,r,hc,hd,hb=>by
  cases cs<;>cases ds<;>simp only[List.replicate_zero,List.flatten_nil,gZ,Option.some.injEq,reduceCtorEq]at hb;subst hb;simp[Od]
 |n+1,i,cs,ds,r,hc,hd,hb=>by
  rw[zm,qb]at hb;obtain⟨q,q1,q2,q3⟩:=Ap hb;obtain⟨v,w,g,j,a⟩:=IH el c hel xs ys (i*c.length) W cs ds q hc hd q1;have a:=a d;rw[List.range'_succ];cases q with
  |true=>
   have e:i*c.length+c.length=(i+1)*c.length:=by rw[lc,Nat.one_mul]
   have A:=DR IH hel d W (n:=n) (i:=i+1) (by have:=VL.drop c.length hc;rwa[rA,e]at this) (by have:=VL.drop c.length hd;rwa[rA,e]at this) (q2 rfl);simp only[Od,aY,g,j,a,aN];simpa using A
  |false=>
   rw[q3 rfl];simp only[Od,aY,g,j,a,aN];simp
theorem vM {i:TypeInfo}(hi:P.info? u=some i):P.cellsOf u=szT P u:=by simp[szT,Program.cellsOf,hi]
theorem Nl {k:Nat}(IH:EqG P ι k){sc:List Sc}(hu:flG P (k+1) u=some sc)(hs:scT P u=none){xs ys:Array Value}{cs ds:List T}(hc:VL ι cs xs.toList)(hd:VL ι ds ys.toList)(hb:gZ sc cs ds=some r)(d:Nat)(W:World):
 (qf (d+(k+1)) u (.agg xs) (.agg ys)).run P W= .ok r W:=by
 unfold flG at hu;rw[hs]at hu;simp only at hu;split at hu
 .cases hu
 .rename_i B;split at hu
  .rename_i C g;split at hu
   .rename_i H G;split at hu
    .cases hu;rw[show d+(k+1)=(d+k)+1 from rfl,run_equalIn_struct W (d+k) u xs ys (by simp[Program.fieldsOf,g]) B];have A:P.fieldsOf u=C:=by simp[Program.fieldsOf,g]
     rw[A];exact AR IH d W G (by simpa using hc) (by simpa using hd) hb
    .cases hu
   .cases hu
  .rename_i n el g;split at hu
   .rename_i c j;split at hu
    .rename_i q;cases hu;simp only[aF]at q;have q:=aC q.1;have a:=j;have hi:∃i,P.info? el=some i:=by
      cases k with
      |zero=>cases a
      |succ k'=>
       unfold flG at a;have:∃d,P.underlying el=some d:=by
        cases g:P.underlying el with
        |none=>(simp[scT,g]at a;split at a<;>cases a)
        |some d=>exact⟨d,rfl⟩
       obtain⟨d,hd⟩:=this;exact info_of_underlying hd
     obtain⟨i,hi⟩:=hi;rw[show d+(k+1)=(d+k)+1 from rfl,run_equalIn_array W (d+k) xs ys g hi,vM hi,q,List.range_eq_range'];exact DR IH j d W (by simpa using hc) (by simpa using hd) hb
    .cases hu
   .cases hu
  .cases hu
theorem Be {k:Nat}{sc:List Sc}(hu:flG P (k+1) u=some sc)(hs:scT P u=none)(xs:Array Value)(off:Nat)(W:World):(part u xs off).run P W= .ok (.agg (xs.extract off (off+sc.length))) W:=by
 unfold flG at hu;rw[hs]at hu;simp only at hu;split at hu
 .cases hu
 .split at hu
  .rename_i j d;obtain⟨i,hi⟩:=info_of_underlying d;split at hu
   .split at hu
    .rename_i a;cases hu;rw[<-aC a];simp[part,isAgg,run_underlying d,run_sizeOf W hi,vM hi]
    .cases hu
   .cases hu
  .rename_i n el d;obtain⟨i,hi⟩:=info_of_underlying d;split at hu
   .rename_i c g;split at hu
    .rename_i a;cases hu;simp only[aF]at a;have a:=aC a.2;rw[JF,Md,CW,<-a];simp[part,isAgg,run_underlying d,run_sizeOf W hi,vM hi]
    .cases hu
   .cases hu
  .cases hu
theorem Oq:∀k,EqG P ι k
 |0=>fun u B h=>by cases h
 |k+1=>by
  intro u B q xs L g W cs G r H I j;cases hs:scT P u with
  |some c=>
   unfold flG at q;rw[hs]at q;cases q;cases cs with
   |nil=>simp[gZ]at j
   |cons a cs=>
    cases G with
    |nil=>simp[gZ]at j
    |cons b G=>
     obtain⟨v,N,q1,q2,q3⟩:=H.cons';obtain⟨w,O,q4,q5,q6⟩:=I.cons';obtain⟨q1,q7⟩:=Ec q1;obtain⟨q4,q8⟩:=Ec q4;refine⟨v,w,run_part_plain (P:=P) W (xu hs) (by simpa using q1),run_part_plain (P:=P) W (xu hs) (by simpa using q4),fun d=> ?_⟩;have A:ry c a b=some r:=by
      simp only[List.length_singleton,kY,List.take_zero,gZ]at j;split at j
      .rename_i A;cases j;exact A
      .rename_i A;cases j;exact A
      .cases j
     exact TM hs q2 q5 A (d+k) W
  |none=>
   have J:∀C:Array Value,(C.extract g (g+B.length)).toList=(C.toList.drop g).take B.length:=fun C=>by
    rw[rM];simp[List.extract]
   refine⟨_,_,Be q hs xs g W,Be q hs L g W,fun d=> ?_⟩;exact Nl (Oq k) q hs (by rw[J];exact VL.take _ H) (by rw[J];exact VL.take _ I) j d W
theorem EU:∀{sc:List Sc} {cs ds:List T} {vs ws:List Value},VL ι cs vs->VL ι ds ws->gZ sc cs ds=some true->vs=ws
 |[],cs,ds,vs,ws,hc,hd,hb=>by
  cases cs<;>cases ds<;>simp only[gZ,Option.some.injEq,reduceCtorEq]at hb;simp only[VL]at hc hd;rw[hc,hd]
 |c::sc,cs,ds,vs,ws,hc,hd,hb=>by
  cases cs with
  |nil=>simp[gZ]at hb
  |cons a cs=>
   cases ds with
   |nil=>simp[gZ]at hb
   |cons b ds=>
    obtain⟨v,g,rfl,q2,q3⟩:=hc.cons';obtain⟨w,j,rfl,q5,q6⟩:=hd.cons';simp only[gZ]at hb;split at hb
    .rename_i d;rw[Fv q2 q5 d,EU q3 q6 hb]
    .cases hb
    .cases hb
theorem NZ (u:TypeId)(x y:Value):∃d,xR u x y=qf (d+4) u x y:=⟨9996,rfl⟩
theorem jW (tf:TF P u ti){x y:T}(hv:VR ι x v)(hw:VR ι y w)(he:mG ti x y=some r)(W:World):
 (xR u v w).run P W= .ok r W/\(∃a b,v= .agg a/\w= .agg b)/\P.eqGuardType P.depth u=false/\(r=true->v=w):=by
 unfold mG at he;split at he
 .split at he
  .cases he
  .rename_i a b q c fl j;simp only[VR]at hv hw;obtain⟨xs,rfl,B⟩:=hv;obtain⟨J,rfl,C⟩:=hw;have g:=tf.fl;rw[j]at g;have g:flT P u=c::fl:=by rcases g with g|g;cases g;exact g
   unfold flT at g;split at g
   .rename_i L H I A;subst g;obtain⟨d,G⟩:=NZ u (.agg xs) (.agg J);refine⟨?_,⟨_,_,rfl,rfl⟩,H,?_⟩
    .rw[G];exact Nl (Oq 3) A I B C he d W
    .intro A;subst A;have:=EU B C he;rw[bz.1 this]
   .cases g
 .cases he
theorem Fh {a b:Value}(hx:ev er x=a)(hy:ev er y=b)(H:Sim P ι s h)(ho:op= .eql\/op= .neq)(hg:∀w,(eqGuard op u x y a b).run P w= .ok () w)(he:∀w,(xR u a b).run P w= .ok r w)(hn:∀w,(binOp op u a b).run P w=((xR u a b).run P w).andThen fun q w=> .ok (.bool (if op= .eql then q else !q)) w):
 aI P (.binOp op u x y yt) ty er h (Post P ι s h (.bool (if op= .eql then r else !r)) s):=by
 refine Af hx hy H ho hg fun w=> ?_
 rw[hn,he];rfl
theorem Jd (tf:TF P u ti){xv yv:T}(hx:VR ι xv (ev er x))(hy:VR ι yv (ev er y))(H:Sim P ι s h)(ho:op= .eql\/op= .neq)(he:mG ti xv yv=some r):
 aI P (.binOp op u x y yt) ty er h (Post P ι s h (.bool (if op= .eql then r else !r)) s):=by
 obtain⟨_,⟨a,b,d,g⟩,j,_⟩:=jW tf hx hy he default;refine Fh d g H ho ?_ ?_ ?_
 .intro w;rcases ho with rfl|rfl<;>simp[eqGuard,j]
 .intro w;have:=(jW tf hx hy he w).1;rwa[d,g]at this
 .intro w;rcases ho with rfl|rfl<;>simp[binOp,cZ]
theorem ES {ps rs:Array TypeId}{vr:Bool}{a b:Value}(hu:P.underlying u=some (.func ps rs vr))(hx:ev er x=a)(hy:ev er y=b)(H:Sim P ι s h)(ho:op= .eql\/op= .neq)(hab:(a= .nilFunc/\b= .nilFunc/\r=true)\/(∃f c d,a= .func f c d/\b= .nilFunc/\r=false)):
 aI P (.binOp op u x y yt) ty er h (Post P ι s h (.bool (if op= .eql then r else !r)) s):=by
 refine Fh hx hy H ho ?_ ?_ ?_
 .intro w;rcases ho with rfl|rfl<;>rcases hab with⟨rfl,rfl,rfl⟩|⟨f,c,d,rfl,rfl,rfl⟩<;>simp[eqGuard]
 .intro w;rw[jS];generalize 9999=d;rcases hab with⟨rfl,rfl,rfl⟩|⟨f,c,d,rfl,rfl,rfl⟩<;>simp[qf,run_underlying hu]
 .intro w;rcases ho with rfl|rfl<;>rcases hab with⟨rfl,rfl,rfl⟩|⟨f,c,d,rfl,rfl,rfl⟩<;>simp[binOp,cZ]
theorem TF.ptr (H:TF P u ti){el:TypeId}(hd:ti.d= .ptr el):P.underlying u=some (.pointer el):=by
 obtain⟨d,a⟩:=H.und;have:=H.d;rw[hd]at this;unfold mkD at this;rw[a]at this;cases d<;>simp at this;rw[a,this]
theorem TF.func (H:TF P u ti)(hd:ti.d= .func):∃a b c,P.underlying u=some (.func a b c):=by
 obtain⟨d,g⟩:=H.und;have:=H.d;rw[hd]at this;unfold mkD at this;rw[g]at this;cases d<;>simp at this;exact⟨_,_,_,g⟩
theorem TF.iface (H:TF P u ti)(hd:ti.d= .iface):∃a,P.underlying u=some (.interface a):=by
 obtain⟨d,g⟩:=H.und;have:=H.d;rw[hd]at this;unfold mkD at this;rw[g]at this;cases d<;>simp at this;exact⟨_,g⟩
theorem Mi {ms:Array _}(hu:P.underlying u=some (.interface ms))(hx:ev er x= .nilIface)(hy:ev er y= .nilIface)(hc:isC y=true)(H:Sim P ι s h)(ho:op= .eql\/op= .neq):
 aI P (.binOp op u x y yt) ty er h (Post P ι s h (.bool (if op= .eql then true else !true)) s):=by
 obtain⟨c,rfl⟩:∃c,y= .const c:=by cases y<;>first|exact⟨_,rfl⟩|cases hc
 refine Fh hx hy H ho ?_ ?_ ?_
 .intro w;rcases ho with rfl|rfl<;>simp[eqGuard]
 .intro w;rw[jS];generalize 9999=d;simp[qf,run_underlying hu]
 .intro w;rcases ho with rfl|rfl<;>simp[binOp,cZ]
theorem KA {x:T}(hv:VR ι x v)(hn:CQ x=some r):∃a n c,v= .slice a n c/\a.isNone=r:=by
 unfold CQ at hn;split at hn<;>cases hn<;>simp only[VR]at hv
 .exact⟨_,_,_,hv,rfl⟩
 .obtain⟨y,_,rfl⟩:=hv;exact⟨_,_,_,rfl,rfl⟩
 .obtain⟨y,_,rfl,_⟩:=hv;exact⟨_,_,_,rfl,rfl⟩
 .obtain⟨y,c,_,rfl,_⟩:=hv;exact⟨_,_,_,rfl,rfl⟩
 .obtain⟨a,c,rfl⟩:=hv;exact⟨_,_,_,rfl,rfl⟩
theorem Yk (ok:Ok P p)(H:Sim P ι s h){xv yv:T}(hti:p.ty u=some ti)(hx:VR ι xv (ev er x))(hy:VR ι yv (ev er y))(hny:yv= .iM->isC y=true)(ho:op= .eql\/op= .neq)(he:RY ti xv yv=some r):aI P (.binOp op u x y yt) ty er h (Post P ι s h (.bool (if op= .eql then r else !r)) s):=by
 have tf:=ok.tf hti;unfold RY at he;split at he
 .rename_i g;split at he
  .rename_i a b;cases he;simp only[VR]at hx hy;exact Qw (tf.bool g) hx hy H ho
  .cases he
 .rename_i el g;split at he
  .obtain⟨a,n,c,A,rfl⟩:=KA hx he;simp only[VR]at hy;exact Ms (tf.slice g) A hy H ho
  .cases he
 .rename_i k v g;split at he
  .cases he;simp only[VR]at hx hy;exact Gy (tf.map g) hx hy H ho
  .cases he;simp only[VR]at hx hy;obtain⟨q,_,hx⟩:=hx;exact Gy (tf.map g) hx hy H ho
  .cases he
 .rename_i el g;split at he
  .cases he;simp only[VR]at hx hy;exact JI (tf.ptr g) hx hy H ho
  .cases he;simp only[VR]at hx hy;obtain⟨q,_,hx⟩:=hx;exact JI (tf.ptr g) hx hy H ho
  .cases he
 .rename_i g;obtain⟨a,b,c,j⟩:=tf.func g;split at he
  .cases he;simp only[VR]at hx hy;exact ES j hx hy H ho (.inl ⟨rfl,rfl,rfl⟩)
  .cases he;rename_i f c d;simp only[VR]at hx hy;refine ES j rfl hy H ho (.inr ?_);split at hx
   .obtain⟨_,_,q,_,hx⟩:=hx;exact⟨_,_,_,hx,rfl,rfl⟩
   .obtain⟨_,_,hx,_⟩:=hx;exact⟨_,_,_,hx,rfl,rfl⟩
  .cases he
 .rename_i g;obtain⟨a,j⟩:=tf.iface g;split at he
  .cases he;simp only[VR]at hx hy;exact Mi j hx hy (hny rfl) H ho
  .cases he
 .exact Jd tf hx hy H ho he
 .exact Jd tf hx hy H ho he
 .cases he
theorem Vk (ok:Ok P p)(re:RE ι m e er)(H:Sim P ι s h)(hd:uw p m e s op u x y=some (t,s')):aI P (.binOp op u x y yt) ty er h (Post P ι s h t s'):=by
 unfold uw at hd;split at hd
 .rename_i a b B C;split at hd
  case h_2=>cases hd
  rename_i d;have d:b= .iM->isC y=true:=by rintro rfl;exact d
  obtain⟨A,rfl⟩:=fD hd;have G:∀ti,p.ty u=some ti->ZF op (RY ti a b)=some t->aI P (.binOp op u x y yt) ty er h (Post P ι s' h t s'):=by
   intro ti q g;have:(op= .eql\/op= .neq)/\∃r,RY ti a b=some r/\t= .bool (if op= .eql then r else !r):=by
    generalize RY ti a b=o at g;unfold ZF at g;split at g
    .split at g
     .cases g;exact⟨.inl rfl,_,rfl,by simp⟩
     .cases g
    .split at g
     .cases g;exact⟨.inr rfl,_,rfl,by simp⟩
     .cases g
    .cases g
   obtain⟨I,r,J,rfl⟩:=this;exact Yk ok H q (ai re B) (ai re C) d I J
  have j:=A;unfold JJ at A;split at A
  .exact JC re H B C j
  .exact Ih re H B C j
  .exact Jl re H B C j
  .split at A
   .rename_i ti q;exact G ti q A
   .cases A
 .cases hd
end
end ops16
end Go.Run
namespace Go.Run
open Go Go.Eng
section maps
variable {P:Program}{p:Pr}{ι:Io}{s s':S}{h:Heap}{m:Fm}{e:E}{er:Env}{ty:TypeId}{t:T}{K:Value->Heap->Prop}
section
variable {c:Nat}{es:List Ent}{k:T}{ki:TI}{l:List MapEntry}{o:Option Nat}{v:Value}
theorem EL.cons' {x:Ent}{xs:List Ent}(h:EL ι (x::xs) l):∃e r,l=e::r/\ER ι x e/\EL ι xs r:=h
theorem EL.length:∀{xs:List Ent} {l:List MapEntry},EL ι xs l->l.length=xs.length
 |[],l,h=>by have h:l=[]:=h;simp[h]
 |x::xs,l,h=>by obtain⟨e,r,rfl,_,a⟩:=h.cons';simp[EL.length a]
theorem EL.get:∀{xs:List Ent} {l:List MapEntry} {j:Nat} {x:Ent},EL ι xs l->xs[j]? =some x->∃e,l[j]? =some e/\ER ι x e
 |[],l,j,x,h,k=>by simp at k
 |y::xs,l,0,x,h,k=>by obtain⟨e,r,rfl,a,d⟩:=h.cons';simp at k;subst k;exact⟨e,rfl,a⟩
 |y::xs,l,j+1,x,h,k=>by obtain⟨e,r,rfl,a,d⟩:=h.cons';simp at k;simpa using EL.get d k
theorem EL.append:∀{xs ys:List Ent} {l k:List MapEntry},EL ι xs l->EL ι ys k->EL ι (xs++ys) (l++k)
 |[],ys,l,k,h,q=>by have h:l=[]:=h;simpa[h]using q
 |x::xs,ys,l,k,h,q=>by obtain⟨e,r,rfl,a,d⟩:=h.cons';exact⟨e,r++k,rfl,a,EL.append d q⟩
theorem EL.mod {f:Ent->Ent}{g:MapEntry->MapEntry}(hfg:∀x e,ER ι x e->ER ι (f x) (g e)):∀{xs:List Ent} {l:List MapEntry} {j:Nat},EL ι xs l->EL ι (wW f xs j) (l.modify j g)
 |[],l,j,h=>by have h:l=[]:=h;subst h;cases j<;>exact rfl
 |x::xs,l,0,h=>by obtain⟨e,r,rfl,a,d⟩:=h.cons';exact⟨g e,r,rfl,hfg _ _ a,d⟩
 |x::xs,l,j+1,h=>by
  obtain⟨e,r,rfl,a,d⟩:=h.cons';rw[List.modify_succ_cons];exact⟨e,r.modify j g,rfl,a,EL.mod hfg d⟩
theorem EL.del:∀{xs:List Ent} {l:List MapEntry} {j:Nat},EL ι xs l->EL ι (KM xs j) (l.eraseIdx j)
 |[],l,j,h=>by have h:l=[]:=h;subst h;exact rfl
 |x::xs,l,0,h=>by obtain⟨e,r,rfl,d,a⟩:=h.cons';exact a
 |x::xs,l,j+1,h=>by obtain⟨e,r,rfl,d,a⟩:=h.cons';exact⟨e,r.eraseIdx j,rfl,d,EL.del a⟩
theorem Dh {f:Ent->Ent}(hf:∀x,(f x).2.2=x.2.2):∀(xs:List Ent) (j:Nat),(wW f xs j).map (·.2.2)=xs.map (·.2.2)
 |[],j=>rfl
 |x::xs,0=>by simp[wW,hf]
 |x::xs,j+1=>by simp[wW,Dh hf xs j]
theorem Gi:∀(xs:List Ent) (j:Nat),(KM xs j).Sublist xs
 |[],j=> .slnil
 |x::xs,0=>List.sublist_cons_self x xs
 |x::xs,j+1=>(Gi xs j).cons_cons x
theorem Jv:jZ es c<->(es.map (·.2.2)).Pairwise (·<·)/\∀w∈es.map (·.2.2),w<c:=by
 unfold jZ;constructor
 .rintro⟨a,b⟩;refine⟨a,fun w g=> ?_⟩;obtain⟨x,d,rfl⟩:=fo.1 g;exact b x d
 .rintro⟨a,b⟩;exact⟨a,fun x d=>b _ (fo.2 ⟨x,d,rfl⟩)⟩
theorem jZ.mod {f:Ent->Ent}(hf:∀x,(f x).2.2=x.2.2){j:Nat}(hb:jZ es c):jZ (wW f es j) c:=by
 rw[Jv]at *;rw[Dh hf];exact hb
theorem jZ.del {j:Nat}(hb:jZ es c):jZ (KM es j) c:=by
 have a:=Gi es j;exact⟨List.Pairwise.sublist (a.map _) hb.1,fun x d=>hb.2 x (a.subset d)⟩
theorem jZ.push {v:T}(hb:jZ es c):jZ (es++[(k,v,c)]) (c+1):=by
 rw[Jv]at *;simp only[List.map_append,lT,List.map_nil];refine⟨?_,?_⟩
 .rw[List.pairwise_append];refine⟨hb.1,by simp,fun a j b d=> ?_⟩;simp only[mJ]at d;subst d;exact hb.2 a j
 .intro w g;simp only[List.mem_append,mJ]at g;rcases g with g|rfl
  .have:=hb.2 w g;omega
  .omega
theorem xk {kt:TypeId}(tk:TF P kt ki){x y:T}{w:Value}{r:Bool}(hv:VR ι x v)(hw:VR ι y w)(he:fV ki x y=some r)(W:World):
 (xR kt v w).run P W= .ok r W/\(r=true->v=w):=by
 obtain⟨d,B⟩:=NZ kt v w;have g:∀c,scT P kt=some c->ry c x y=some r->(xR kt v w).run P W= .ok r W/\(r=true->v=w):=by
  intro c A j;exact⟨by rw[B];exact TM A hv hw j (d+3) W,fun C=>by subst C;exact Fv hv hw j⟩
 unfold fV at he;split at he
 .rename_i q a;exact g .i (by unfold scT;rw[tk.int a]) he
 .rename_i a;exact g .b (by unfold scT;rw[tk.bool a]) he
 .rename_i a;exact g .s (by unfold scT;rw[tk.string a]) he
 .exact⟨(jW tk hv hw he W).1,(jW tk hv hw he W).2.2.2⟩
 .exact⟨(jW tk hv hw he W).1,(jW tk hv hw he W).2.2.2⟩
 .cases he
noncomputable def FR (l:List MapEntry)(i:Nat)(v:Value):Option Nat->Option (Nat×Value)->Prop
 |none,r=>r=none
 |some j,r=>∃e,l[j]? =some e/\e.key=v/\r=some (i+j,e.val)
theorem FR.step {e:MapEntry}{i:Nat}{r:Option (Nat×Value)}(H:FR l (i+1) v o r):FR (e::l) i v (o.map (·+1)) r:=by
 cases o with
 |none=>exact H
 |some j=>
  obtain⟨a,d,g,q⟩:=H;exact⟨a,by simpa using d,g,by rw[q];simp;omega⟩
theorem tH {x:Ent}(h:iT ki k (x::es)=some o):
 (fV ki k x.1=some true/\o=some 0)\/(fV ki k x.1=some false/\∃o',iT ki k es=some o'/\o=o'.map (·+1)):=by
 simp only[iT]at h;split at h
 .rename_i a;cases h;exact .inl ⟨a,rfl⟩
 .rename_i a;refine .inr ⟨a,?_⟩;split at h
  .rename_i j d;cases h;exact⟨_,d,rfl⟩
  .rename_i d;cases h;exact⟨_,d,rfl⟩
  .cases h
 .cases h
theorem Oa {kt:TypeId}{ki:TI}(tk:TF P kt ki){k:T}{v:Value}(hv:VR ι k v)(W:World):∀{es:List Ent} {l:List MapEntry} {i:Nat} {o:Option Nat},EL ι es l->iT ki k es=some o->
 ∃r,(mK kt v l i).run P W= .ok r W/\FR l i v o r
 |[],l,i,o,a,hf=>by
  have a:l=[]:=a;subst a;simp only[iT,Option.some.injEq]at hf;subst hf;exact⟨none,by simp[mK],rfl⟩
 |x::es,l,i,o,a,hf=>by
  obtain⟨e,l,rfl,g,j⟩:=a.cons';rcases tH hf with⟨d,rfl⟩|⟨d,A,q,rfl⟩
  .obtain⟨q1,q2⟩:=xk tk hv g.1 d W;exact⟨some (i,e.val),by simp[mK,q1,cZ],⟨e,rfl,(q2 rfl).symm,rfl⟩⟩
  .obtain⟨q1,_⟩:=xk tk hv g.1 d W;obtain⟨r,q3,q4⟩:=Oa tk hv W (i:=i+1) j q;exact⟨r,by simp[mK,q1,cZ,q3],q4.step⟩
noncomputable def ScD:TypeDesc->Sc->Prop
 | .int _,.i=>True
 | .bool,.b=>True
 | .string,.s=>True
 |_,_=>False
theorem Nb {ki:TI}{d:TypeDesc}{c:Sc}{k:T}{v:Value}(hv:VR ι k v)(hk:∀y,fV ki k y=ry c k y)(hd:ScD d c):
 ∀{es:List Ent} {l:List MapEntry} {i:Nat} {o:Option Nat},EL ι es l->iT ki k es=some o->∃r,AA d v l i=some r/\FR l i v o r
 |[],l,i,o,j,hf=>by
  have j:l=[]:=j;subst j;simp only[iT,Option.some.injEq]at hf;subst hf;exact⟨none,by simp[AA],rfl⟩
 |x::es,l,i,o,j,hf=>by
  obtain⟨e,l,rfl,A,G⟩:=j.cons';have q:∀r,fV ki k x.1=some r->AB d v e.key=some r:=by
   intro r a;rw[hk]at a;unfold ry at a;split at a
   .split at a
    .rename_i B;cases a;have C:=A.1
     simp_all only[VR]
     cases d<;>simp[ScD]at hd;obtain rfl:=jR B;simp[AB,za]
    .cases a
   .cases a;have C:=A.1
    simp_all only[VR]
    cases d<;>simp[ScD]at hd;simp[AB]
   .cases a;have C:=A.1
    simp_all only[VR]
    cases d<;>simp[ScD]at hd;simp[AB,uB]
   .cases a
  rcases tH hf with⟨g,rfl⟩|⟨g,I,H,rfl⟩
  .have q1:=q _ g;rw[hk]at g;exact⟨some (i,e.val),by simp[AA,q1],⟨e,rfl,(Fv hv A.1 g).symm,rfl⟩⟩
  .have q1:=q _ g;obtain⟨r,q3,q4⟩:=Nb hv hk hd (i:=i+1) G H;exact⟨r,by simp[AA,q1,q3],q4.step⟩
theorem jH {kt:TypeId}(tk:TF P kt ki)(hv:VR ι k v)(hs:fV ki k k=some true)(hl:EL ι es l)(hf:iT ki k es=some o)(W:World):
 ∃r,(yR kt v l).run P W= .ok r W/\FR l 0 v o r:=by
 have A:(match P.underlying kt with|some (.array _ _)|some (.struct _)=>true|_=>false)=true->∃r,(yR kt v l).run P W= .ok r W/\FR l 0 v o r:=by
  intro H;rw[run_findKey_eq W H];exact Oa tk hv W hl hf
 have j:∀(c:Sc) (d:TypeDesc),P.underlying kt=some d->(∀y,fV ki k y=ry c k y)->ScD d c->
  ∃r,(yR kt v l).run P W= .ok r W/\FR l 0 v o r:=by
  intro c d g B C;obtain⟨r,q1,q2⟩:=Nb hv B C (i:=0) hl hf;exact⟨r,MapKept.run_findKey g q1,q2⟩
 have G:=hs;unfold fV at hs;split at hs
 .rename_i q a;exact j .i _ (tk.int a) (fun y=>by unfold fV;rw[a]) trivial
 .rename_i a;exact j .b _ (tk.bool a) (fun y=>by unfold fV;rw[a]) trivial
 .rename_i a;exact j .s _ (tk.string a) (fun y=>by unfold fV;rw[a]) trivial
 .rename_i I a;obtain⟨J,g,_⟩:=tk.lV a;exact A (by rw[g])
 .rename_i n el a;exact A (by rw[tk.array a])
 .cases hs
theorem He {u:TypeId}{c:Sc}(hu:scT P u=some c)(em:Bool)(n:Nat)(v:Value)(W:World):(ic em (n+1) u v).run P W= .ok () W:=by
 unfold scT at hu;split at hu
 .rename_i q a;simp[ic,run_underlying a]
 .rename_i a;simp[ic,run_underlying a]
 .rename_i a;simp[ic,run_underlying a]
 .cases hu
end
end maps
end Go.Run
namespace Go.Run
open Go Go.Eng
section maps2
variable {P:Program}{p:Pr}{ι:Io}{s s':S}{h:Heap}{m:Fm}{e:E}{er:Env}{ty:TypeId}{t:T}{K:Value->Heap->Prop}
section
variable {k:T}{ki:TI}{u:TypeId}{v:Value}{x:T}
theorem J8:∀{sc:List Sc} {cs ds:List T},gZ sc cs ds=some true->cs.length=sc.length
 |[],cs,ds,hb=>by cases cs<;>cases ds<;>simp_all [gZ]
 |c::sc,cs,ds,hb=>by
  cases cs with
  |nil=>simp[gZ]at hb
  |cons a cs=>
   cases ds with
   |nil=>simp[gZ]at hb
   |cons b ds=>
    simp only[gZ]at hb;split at hb
    .simp[J8 hb]
    .cases hb
    .cases hb
noncomputable def ZV (P:Program)(k:Nat):Prop:=∀u sc,flG P k u=some sc->∀(xs:Array Value) (off:Nat),off+sc.length<=xs.size->∀(em:Bool) (W:World),∃v,(part u xs off).run P W= .ok v W/\∀n,(ic em (n+k) u v).run P W= .ok () W
theorem Gq {k:Nat}(IH:ZV P k){xs:Array Value}(em:Bool)(W:World):∀{fs:List Field} {i:Nat} {sc:List Sc},flE P (flG P k) fs i=some sc->i+sc.length<=xs.size->∀f∈fs,f.name≠ "_" /\∃v,(part f.type xs f.offset).run P W= .ok v W/\∀n,(ic em (n+k) f.type v).run P W= .ok () W
 |[],i,sc,hf,hl,f,a=>by simp at a
 |g::fs,i,sc,hf,hl,f,a=>by
  simp only[flE]at hf;split at hf
  .rename_i c d q;split at hf
   .rename_i j A;cases hf;simp only[aF,bne_iff_ne,ne_eq]at d;rw[List.length_append]at hl;rcases List.mem_cons.1 a with rfl|a
    .exact⟨d.1,IH f.type c q xs f.offset (by rw[aC d.2];omega) em W⟩
    .exact Gq IH em W A (by omega) f a
   .cases hf
  .cases hf
theorem PD {k:Nat}(IH:ZV P k){sc:List Sc}(hu:flG P (k+1) u=some sc)(hs:scT P u=none){xs:Array Value}(hl:sc.length<=xs.size)(em:Bool)(n:Nat)(W:World):(ic em (n+(k+1)) u (.agg xs)).run P W= .ok () W:=by
 unfold flG at hu;rw[hs]at hu;simp only at hu;rw[show n+(k+1)=(n+k)+1 from rfl,ic];split at hu
 .cases hu
 .split at hu
  .rename_i O A;split at hu
   .rename_i Z J;split at hu
    .cases hu;have a:=Gq IH em W (xs:=xs) J (by omega);simp only[aY,run_underlying A,aN];rw[<-Array.forIn_toList];clear J A;generalize O.toList=L at a;induction L with
     |nil=>simp
     |cons f L ih=>
      obtain⟨V,v,I,B⟩:=a f (by simp);have B:=B n;simp only[OZ,aY,V,ne_eq,not_false_eq_true,if_true,aN,I,B,bE];exact ih (fun y H=>a y (by simp[H]))
    .cases hu
   .cases hu
  .rename_i m el A;split at hu
   .rename_i c q;split at hu
    .rename_i C;cases hu;simp only[aF]at C;have C:=aC C.1;have hi:∃i,P.info? el=some i:=by
      cases k with
      |zero=>cases q
      |succ k'=>
       have g:=q;unfold flG at g;have:∃d,P.underlying el=some d:=by
        cases A:P.underlying el with
        |none=>(simp[scT,A]at g;split at g<;>cases g)
        |some d=>exact⟨d,rfl⟩
       obtain⟨d,R⟩:=this;exact info_of_underlying R
     obtain⟨i,hi⟩:=hi;have G:P.cellsOf el=c.length:=(vM hi).trans C;rw[JF,Md,CW]at hl;simp only[aY,run_underlying A,aN];simp only[Std.Legacy.Range.forIn_eq_forIn_range',Std.Legacy.Range.size,Ol,Nat.add_one_sub_one,Nat.div_one];have a:∀j∈PR 0 m,∃v,(part el xs (j*c.length)).run P W= .ok v W/\∀n,(ic em (n+k) el v).run P W= .ok () W:=by
      intro j U;simp only[List.mem_range'_1]at U;have Q:(j+1)*c.length<=m*c.length:=Nat.mul_le_mul_right _ (by omega);rw[lc,Nat.one_mul]at Q;exact IH el c q xs (j*c.length) (by omega) em W
     generalize PR 0 m=N at a;clear A hl;induction N with
     |nil=>simp
     |cons j N ih=>
      obtain⟨v,I,B⟩:=a j (by simp);have B:=B n;simp only[OZ,aY,run_sizeOf W hi,G,aN,I,B,bE];exact ih (fun y H=>a y (by simp[H]))
    .cases hu
   .cases hu
  .cases hu
theorem Og:∀k,ZV P k
 |0=>fun u A h=>by cases h
 |k+1=>by
  intro u A d xs a q j W;cases hs:scT P u with
  |some c=>
   unfold flG at d;rw[hs]at d;cases d;have g:a<xs.size:=by simp at q;omega
   exact⟨xs[a],run_part_plain (P:=P) W (xu hs) (by simp[g]),fun n=>He hs j (n+k) _ W⟩
  |none=>
   refine⟨_,Be d hs xs a W,fun n=>PD (Og k) d hs ?_ j n W⟩;rw[Array.size_extract];omega
theorem Qy {ti:TI}(tf:TF P u ti)(hv:VR ι x v)(he:mG ti x x=some true)(em:Bool)(n:Nat)(W:World):(ic em (n+4) u v).run P W= .ok () W:=by
 unfold mG at he;split at he
 .split at he
  .cases he
  .rename_i a c fl g;simp only[VR]at hv;obtain⟨xs,rfl,B⟩:=hv;have j:=J8 he;have G:=B.length;have d:=tf.fl;rw[g]at d;have d:flT P u=c::fl:=by rcases d with d|d;cases d;exact d
   unfold flT at d;split at d
   .rename_i H C A q;subst d;exact PD (Og 3) q A (by rw[<-dC];omega) em n W
   .cases d
 .cases he
theorem gM {kt:TypeId}(tk:TF P kt ki)(hv:VR ι k v)(hs:fV ki k k=some true)(em:Bool)(W:World):(ic em 10000 kt v).run P W= .ok () W:=by
 have d:∀c,scT P kt=some c->(ic em 10000 kt v).run P W= .ok () W:=fun c j=>He j em 9999 v W
 have g:mG ki k k=some true->(ic em 10000 kt v).run P W= .ok () W:=fun A=>Qy tk hv A em 9996 W
 unfold fV at hs;split at hs
 .rename_i q a;exact d .i (by unfold scT;rw[tk.int a])
 .rename_i a;exact d .b (by unfold scT;rw[tk.bool a])
 .rename_i a;exact d .s (by unfold scT;rw[tk.string a])
 .exact g hs
 .exact g hs
 .cases hs
theorem zi {c:Sc}(hv:VR ι x v)(he:ry c x x=some true)(n:Nat):rz n v v=true:=by
 unfold ry at he;split at he
 .simp only[VR]at hv;subst hv;simp[rz]
 .simp only[VR]at hv;subst hv;simp[rz]
 .simp only[VR]at hv;subst hv;simp[rz,uB,kI]
 .cases he
theorem EF (n:Nat):∀{sc:List Sc} {cs:List T} {vs:List Value},VL ι cs vs->gZ sc cs cs=some true->(vs.zip vs).all (fun(x,y)=>rz n x y)=true
 |[],cs,vs,hc,hb=>by
  cases cs with
  |nil=>simp only[VL]at hc;simp[hc]
  |cons a cs=>simp[gZ]at hb
 |c::sc,cs,vs,hc,hb=>by
  cases cs with
  |nil=>simp[gZ]at hb
  |cons a cs=>
   obtain⟨v,g,rfl,q2,q3⟩:=hc.cons';simp only[gZ]at hb;split at hb
   .rename_i d;simp only[List.zip_cons_cons,Mc,aF];exact⟨zi q2 d n,EF n q3 hb⟩
   .cases hb
   .cases hb
theorem xS (hv:VR ι k v)(hs:fV ki k k=some true)(W:World):(zt v v).run P W= .ok v W:=by
 have j:rz 10000 v v=true:=by
  have g:mG ki k k=some true->rz 10000 v v=true:=by
   intro d;unfold mG at d;split at d
   .split at d
    .cases d
    .rename_i a c fl q;simp only[VR]at hv;obtain⟨xs,rfl,A⟩:=hv;show(xs.size==xs.size&&(xs.toList.zip xs.toList).all fun(x,y)=>rz 9999 x y)=true;simp only[beq_self_eq_true,Bool.true_and];exact EF 9999 A d
   .cases d
  unfold fV at hs;split at hs
  .exact zi hv hs _
  .exact zi hv hs _
  .exact zi hv hs _
  .exact g hs
  .exact g hs
  .cases hs
 simp[zt,j]
theorem jN (H:Sim P ι s h){b:Nat}{es:List Ent}{c:Nat}(hb:s.at b=some (.map es c)){y:Inf}(hy:ι b=some y):∃ents,h[y.r]? =some (.map ents c)/\EL ι es ents.toList/\jZ es c:=by
 obtain⟨B,A,a,d,g⟩:=H.obj b _ hb;rw[hy]at a;cases a;obtain⟨ents,rfl,j,q⟩:=g;exact⟨ents,d,j,q⟩
theorem o9 (ok:Ok P p){vi:TI}(hm:EH p u=some (ki,vi)):∃kt vt,P.underlying u=some (.map kt vt)/\TF P kt ki/\TF P vt vi:=by
 unfold EH at hm;split at hm
 .rename_i ti a;split at hm
  .rename_i kt vt j;split at hm
   .rename_i q A d g;cases hm;exact⟨kt,vt,(ok.tf a).map j,ok.tf d,ok.tf g⟩
   .cases hm
  .cases hm
 .cases hm
theorem CV {ti:TI}(tf:TF P u ti):∃z,(∀W,(zeroValue u).run P W= .ok z W)/\∀ι,VR ι ti.zero z:=by
 obtain⟨z,a,d⟩:=tf.zero;refine⟨z,fun W=> ?_,d⟩;unfold dJ at a;cases hi:P.info? u with
 |none=>simp[hi]at a
 |some i=>simp only[hi,kE]at a;simp[zeroValue,typeInfo,hi,a]
theorem U6 (H:Sim P ι s h)(hv:VR ι x v){es:List Ent}(he:MZ s x=some es):
 ∃ents:Array MapEntry,EL ι es ents.toList/\((v= .map none/\ents= #[])\/∃r c,v= .map (some r)/\h[r]? =some (.map ents c)):=by
 unfold MZ at he;split at he
 .cases he;simp only[VR]at hv;exact⟨#[],rfl,.inl ⟨hv,rfl⟩⟩
 .rename_i b;simp only[VR]at hv;obtain⟨y,q,hv⟩:=hv;split at he
  .rename_i a c j;cases he;obtain⟨ents,d,g,_⟩:=jN H j q;exact⟨ents,g,.inr ⟨_,_,hv,d⟩⟩
  .cases he
 .cases he
theorem Lf (ok:Ok P p)(H:Sim P ι s h){xv kv:Value}{b:Bool}(hx:VR ι x xv)(hk:VR ι k kv)(hd:G8 p s u x k b=some t):
 ∃v,VR ι t v/\∀W:World,W.heap=h->(xU u xv kv b).run P W= .ok v W:=by
 unfold G8 at hd;split at hd
 .rename_i ki vi es hm he;obtain⟨R,vt,J,g,tv⟩:=o9 ok hm;obtain⟨z,U,V⟩:=CV tv;obtain⟨a,q,Q⟩:=U6 H hx he;split at hd
  .rename_i d;split at hd
   .rename_i j C;split at hd
    .rename_i en B;cases hd;obtain⟨L,N,O⟩:=q.get B;refine⟨if b then .tuple #[L.val,.bool true]else L.val,?_,fun W A=> ?_⟩
     .cases b
      .exact O.2.1
      .simp only[VR,if_true];exact⟨_,rfl,by simp[VL,VR,O.2.1]⟩
     .obtain⟨r,q1,q2⟩:=jH g hk d q C W;obtain⟨Z,q3,_,rfl⟩:=q2;rw[N]at q3;cases q3;subst A;have c1:=gM g hk d a.isEmpty W;rcases Q with⟨rfl,rfl⟩|⟨r',c,rfl,I⟩
      .simp at N
      .have G:=MapKept.run_getObj_map (P:=P) I;cases b<;>simp[xU,aY,run_underlying J,G,cZ,c1,q1]
    .cases hd
   .rename_i C;cases hd;refine⟨if b then .tuple #[z,.bool false]else z,?_,fun W A=> ?_⟩
    .cases b
     .exact V ι
     .simp only[VR,if_true];exact⟨_,rfl,by simp[VL,VR,V ι]⟩
    .obtain⟨r,q1,q2⟩:=jH g hk d q C W;have q2:r=none:=q2;subst q2;subst A;have c1:=gM g hk d a.isEmpty W;rcases Q with⟨rfl,rfl⟩|⟨r',c,rfl,I⟩
     .have c1:(ic true 10000 R kv).run P W= .ok () W:=by simpa using c1
      have q1:(yR R kv []).run P W= .ok none W:=by simpa using q1
      cases b<;>simp[xU,aY,run_underlying J,cZ,c1,q1,U]
     .have G:=MapKept.run_getObj_map (P:=P) I;cases b<;>simp[xU,aY,run_underlying J,G,cZ,c1,q1,U]
   .cases hd
  .cases hd
 .cases hd
theorem JO (ok:Ok P p)(re:RE ι m e er)(H:Sim P ι s h){x k:Operand}{b:Bool}(hd:kW p m e s u x k b=some (t,s')):aI P (.lookup u x k b) ty er h (Post P ι s h t s'):=by
 unfold kW at hd;split at hd
 .rename_i A q j g;obtain⟨a,rfl⟩:=fD hd;obtain⟨v,q1,q2⟩:=Lf ok H (ai re j) (ai re g) a;refine aK rfl v (Post.pure H q1) fun W d=> ?_
  have:=q2 W d;simp[execOp,this]
 .cases hd
end
end maps2
end Go.Run
