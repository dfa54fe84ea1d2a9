/- Lemmas. No condition. -/
import Derived.Test.YtejmkibjpaoahaaGreatDoorRunU
import Derived.KernelRfl
import Derived.Test.YtejmkibjpaoahaaGreatDoorProg
import Derived.Laws.CopyRow
import Derived.Laws.Externs
import Derived.Lib.Builder
open And renaming intro→aD
open Go.Result renaming andThen_ok→aN,andThen→cZ
open Go.Sem renaming run_bind→aY,run_pure→bE
open List renaming replicate→aZ,length_append→cz,toList_toArray→dG,take_of_length_le→dS,getElem?_take→eD,length_eq_zero_iff→eQ,mem_map→fo,take_append_of_le_length→iL,length_take→kD,getElem?_drop→kL,map_cons→lT,take_take→lX,append_assoc→pE,size_toArray→uE,map_take→AL,drop_zero→IX
open Nat renaming le_refl→bi,lt_of_lt_of_le→bv,zero_add→ek,le_trans→fw,add_zero→ko,mul_le_mul_right→kz,add_mul→lc,mul_one→zn
open Array renaming toList_inj→bz,length_toList→dC,getElem?_eq_some_iff→eO,getElem?_modify→lY,getElem?_setIfInBounds→nY,getElem_modify→yE
open Option renaming isSome_iff_exists→bD,bind_some→kE,isNone→WF
open Go.Proofs.Tryz renaming prog→bI,underlying127→sQ,underlying253→MC
open Go.MapKept renaming run_getObj_map→bR,run_setObj_map→eF
open Go.Builtin renaming firstCells→bS,zeroCells→dn,append_→gY,clear_→rf,delete_→sS,copy_→zS,lenOf→zW
open Go.Region renaming wanted→fe
open Go.Instr renaming findAsking→mK,mapUpdate→xI,lookup→xU
open Go.Value renaming cells→ny,int→nX,oneCell'→pz
open Go.World renaming setRow→qO
set_option linter.unusedSimpArgs false
set_option linter.unusedVariables false
set_option linter.defProp false
set_option maxRecDepth 100000
namespace Go.Proofs.YtejmkibjpaoahaaGreatDoor.Tab
open Go Go.Proofs Go.Eng
theorem sz127:szT bI 127=1:=by kernel_rfl
theorem inf127:(Tryz.prog.info? 127).isSome=true:=by kernel_rfl
theorem agg127:zF bI 127=some false:=by kernel_rfl
theorem sz129:szT bI 129=2:=by kernel_rfl
theorem inf129:(Tryz.prog.info? 129).isSome=true:=by kernel_rfl
theorem fo129_0:jG bI 129 0=some 0:=by kernel_rfl
theorem bod121:qA bI 121=true:=by kernel_rfl
end Go.Proofs.YtejmkibjpaoahaaGreatDoor.Tab
namespace Go.Eng
open Go
theorem Upd.trans {a b c:Heap}{g:Nat}(x:Upd a b g)(y:Upd b c g):Upd a c g:=⟨y.size.trans x.size,fun i j=>(y.old i j).trans (x.old i j)⟩
theorem zBY {n:Int}:InK .u64 n=(0<=n/\n<=18446744073709551615):=by simp[InK,IntKind.min,IntKind.max,IntKind.signed,IntKind.bits]
theorem Upd.refl (a:Heap)(g:Nat):Upd a a g:=⟨rfl,fun _ _=>rfl⟩
section apps
variable {P:Program}{h0:Nat}{h:Heap}{er:Env}{ty:TypeId}
section
variable {K:Value->Heap->Prop}{a a' b:Option Addr}{c:Nat}{ct e2 el:TypeId}{g:Nat}{h':Heap}{len m n:Nat}{t t2:TypeId}{v:Value}{x:Operand}{xs:List Int}{y:Operand}{ys:List Int}{z:Int}
structure eG (h0:Nat)(h:Heap)(el:TypeId)(a:Option Addr)(len cap:Nat)(xs:List Int):Prop where
 ln:len=xs.length
 ok:(a=none/\len=0/\cap=0)\/∃g cur,a=some ⟨g,0,none⟩/\h0<=g/\h[g]? =some (.cells cur el (0,0))/\cap<=cur.size/\len<=cap/\cur.toList.take len=ints xs
theorem eG.nil (h0:Nat)(h:Heap)(el:TypeId):eG h0 h el none 0 0 []:=⟨rfl,.inl ⟨rfl,rfl,rfl⟩⟩
theorem eG.ints {cap:Nat}(O:eG h0 h el a len cap xs):eu h a len xs:=by
 refine⟨O.ln,?_⟩;rcases O.ok with⟨rfl,q,_⟩|⟨g,j,rfl,q,r,B,C,w⟩
 .left;have:=O.ln;have:xs=[]:=eQ.1 (by omega);simp[this,Eng.ints]
 .right;have A:=O.ln;refine⟨g,0,j,el,(0,0),rfl,r,by rw[aR];omega,by rw[aR,IX,<-A];exact w⟩
theorem eG.cap {cap:Nat}(O:eG h0 h el a len cap xs):len<=cap:=by
 rcases O.ok with⟨_,q,r⟩|⟨g,j,_,_,_,_,w,_⟩<;>omega
theorem eG.keep {cap:Nat}(O:eG h0 h el a len cap xs)(hk:∀p,a=some p->h'[p.block]? =h[p.block]?):eG h0 h' el a len cap xs:=by
 refine⟨O.ln,?_⟩;rcases O.ok with q|⟨g,j,rfl,q,r,w⟩
 .exact .inl q
 .exact .inr ⟨g,j,rfl,q,(hk _ rfl).trans r,w⟩
theorem eG.lt {cap:Nat}(O:eG h0 h el a len cap xs){p:Addr}(hp:a=some p):p.block<h.size/\h0<=p.block:=by
 rcases O.ok with⟨j,_⟩|⟨g,q,j,r,w,A⟩
 .rw[j]at hp;cases hp
 .rw[j]at hp;cases hp;exact⟨bA w,r⟩
theorem eG.ext {cap:Nat}(O:eG h0 h el a len cap xs)(x:Ext h h'):eG h0 h' el a len cap xs:=O.keep fun p j=>x.old _ (O.lt j).1
structure App (h h':Heap)(a a':Option Addr):Prop where
 size:h.size<=h'.size
 old:∀c,c<h.size->(∀p,a=some p->p.block≠c)->h'[c]? =h[c]?
 to:∀p,a'=some p->(∃q,a=some q/\q.block=p.block)\/h.size<=p.block
theorem App.ext {cap:Nat}(A:App h h' a a')(O:eG h0 h el a len cap xs){h1:Heap}(x:Ext h1 h)(hl:h1.size<=h0):Ext h1 h':=
 ⟨fw x.size A.size,fun c j=>(A.old c (bv j x.size) fun p r q=>by have:=(O.lt r).2;omega).trans (x.old c j)⟩
theorem GH {w:World}{k:Nat}(H:eu w.heap b m ys)(hk:k<=m):(bS 1 k (.slice b m c)).run P w= .ok ((Eng.ints ys).take k).toArray w:=by
 cases b with
 |none=>
  rcases H.row with r|⟨g,B,C,ct,G,r,_⟩
  .have:ys=[]:=by simpa[Eng.ints]using r
   have A:=H.len;rw[this]at A;obtain rfl:k=0:=by simp at A;omega
   simp[bS]
  .cases r
 |some a=>
  rcases H.row with r|⟨g,B,C,ct,G,r,I,N,J⟩
  .have L:ys=[]:=by simpa[Eng.ints]using r
   have A:=H.len;rw[L]at A;obtain rfl:k=0:=by simp at A;omega
   have:=run_firstCells_some (P:=P) w 1 0 a m c [] (by simp) (by simp);simpa using this
  .cases r;have A:=H.len;refine run_firstCells_some w 1 k ⟨g,B,none⟩ m c _ (by rw[kD,aR];omega) fun j u q=> ?_
   rw[<-J,eD]at q;split at q
   .rw[eD]at q;split at q
    .rw[kL]at q;exact Go.Run.vF I (by simpa using q)
    .cases q
   .cases q
theorem Gl {ats:Array TypeId}(h1:ats[1]? =some t2)(hu:P.underlying t2=some (.slice e2))(H:eu h b m ys):Go.Run.Src P ats h 1 m (.slice b m c) (Eng.ints ys):=by
 have r:=H.len;refine⟨⟨t2,_,h1,hu,.inl ⟨e2,rfl⟩⟩,fun w _=>by simp[zW],fun w j=> ?_,fun _ n q w j=> ?_⟩
 .subst j;have:=GH (P:=P) (c:=c) H (bi m);rwa[dS (by rw[aR];omega)]at this
 .subst j;have:=GH (P:=P) (c:=c) H q;rwa[zn]
theorem Jn {i:TypeInfo}(hu:P.underlying t=some (.slice el))(hu2:P.underlying t2=some (.slice e2))(hi:P.info? el=some i)(hsz:i.size=1)(hby:i.bytes<=8)(hz:i.zero=some (.int .i64 z)){cap:Nat}(hx:ev er x= .slice a len cap)(hy:ev er y= .slice b m c)(O:eG h0 h el a len cap xs)(h0h:h0<=h.size)(I:eu h b m ys)(hb:len+m<=100000)(H:∀a' cap' h',eG h0 h' el a' (len+m) cap' (xs++ys)->App h h' a a'->K (.slice a' (len+m) cap') h'):aI P (.call ⟨.builtin .append,#[x,y],#[t,t2]⟩) ty er h K:=by
 unfold aI;refine aD rfl fun w hw=> ?_
 subst hw;have q:(xs++ys).length=len+m:=by rw[cz,<-O.ln,<-I.len]
 have V:=Gl (P:=P) (ats:= #[t,t2]) (c:=c) rfl hu2 I;have r: #[x,y].map (ev er)= #[.slice a len cap,.slice b m c]:=by simp[hx,hy]
 have B:∀v C,(gY #[t,t2] ty #[.slice a len cap,.slice b m c]).run P w= .ok v C->Rest w C->K v C.heap->
  dQ P w K ((execOp (ev er) {dst:=none,op:= .call ⟨.builtin .append,#[x,y],#[t,t2]⟩,type:=ty,pos:= "",after:= #[],guard:=none}).run P w):=by
  intro v C h1 h2 h3;have:(execOp (ev er) {dst:=none,op:= .call ⟨.builtin .append,#[x,y],#[t,t2]⟩,type:=ty,pos:= "",after:= #[],guard:=none}).run P w= .ok (.value v) C:=by
   simp only[execOp,resolve,invoke,builtin,aY,bE,aN,r,h1]
  rw[this];exact⟨h3,h2⟩
 have j:cap<len+m->dQ P w K ((execOp (ev er) {dst:=none,op:= .call ⟨.builtin .append,#[x,y],#[t,t2]⟩,type:=ty,pos:= "",after:= #[],guard:=none}).run P w):=by
  intro N;have J:=Go.Run.uy (P:=P) (ty:=ty) (ats:= #[t,t2]) (z:= .int .i64 z) (sLen:=len) (sCap:=cap) (b:=a) (olds:=Eng.ints xs) rfl hu hi hz w (by rw[hsz];exact V)
   (fun C W=>by
    have hI:=O.ints;rw[<-W]at hI;have:=GH (P:=P) (c:=cap) hI (bi len);rw[dS (by rw[aR,<-O.ln];omega)]at this;rw[hsz];exact this) N (by have:(len+m)*i.bytes<=100000*8:=Nat.mul_le_mul hb hby;omega) (by omega)
  refine B _ _ J ⟨rfl,rfl,rfl⟩ (H _ _ _ ⟨q.symm,.inr ⟨w.heap.size,_,rfl,h0h,jD,?_,grownCap_ge w (len+m) cap el,?_⟩⟩ ⟨by simp,fun c hc _=> ?_,fun p L=> ?_⟩)
  .have:=grownCap_ge w (len+m) cap el;have hzl:(dn (nX .i64 z).cells (grownCap w (len+m) cap el-(len+m))).size=grownCap w (len+m) cap el-(len+m):=by
    simp[dn,ny]
   simp only[uE,cz,aR,dC,hzl,<-O.ln,<-I.len];omega
  .rw[dG,pE,<-pE,iL]
   .rw[dS]
    .simp[Eng.ints]
    .rw[cz,aR,aR,<-O.ln,<-I.len];omega
   .rw[cz,aR,aR,<-O.ln,<-I.len];omega
  .show(w.heap.push _)[c]? =_;rw[uo,if_neg (by omega)]
  .cases L;exact .inr (bi _)
 rcases O.ok with⟨rfl,rfl,rfl⟩|⟨g,G,rfl,q1,q2,q3,q4,q5⟩
 .by_cases hm:m=0
  .subst hm;have hy0:ys=[]:=eQ.1 I.len.symm;have Z:xs=[]:=eQ.1 O.ln.symm;have J:=Go.Run.zZ (P:=P) (ty:=ty) (ats:= #[t,t2]) rfl hu hi w (x:= .slice b 0 c) (news:=Eng.ints ys) (by rw[hsz];exact V);exact B _ _ J (Rest.refl w) (H none 0 w.heap ⟨by rw[Z,hy0];rfl,.inl ⟨rfl,rfl,rfl⟩⟩ ⟨bi _,fun _ _ _=>rfl,fun p L=>by cases L⟩)
  .exact j (by omega)
 .by_cases hr:len+m<=cap
  .have J:=Go.Run.oq (P:=P) (ty:=ty) (ats:= #[t,t2]) (sLen:=len) (sCap:=cap) (off:=0) rfl hu hi w (by rw[hsz];exact V) q2 (fun u hu=>by
    simp only[Eng.ints,fo]at hu;obtain⟨_,_,rfl⟩:=hu;rfl) hr (by rw[hsz,aR,<-I.len];omega)
   have A:(w.setRow g (splice G.toList (0+len*i.size) (Eng.ints ys)).toArray).heap[g]? =some (.cells (splice G.toList (0+len*i.size) (Eng.ints ys)).toArray el (0,0)):=by
    have R:=bA q2;have hv:=(eO.1 q2).2;simp[qO,yE,R,hv]
   refine B _ _ J ⟨rfl,rfl,rfl⟩ (H _ _ _ ⟨q.symm,.inr ⟨g,_,rfl,q1,A,?_,hr,?_⟩⟩ ⟨by simp[qO],fun c hc U=> ?_,fun p L=> .inl ⟨p,L,rfl⟩⟩)
   .simp[splice,hsz,aR,<-I.len];omega
   .rw[dG,hsz,ek,zn,splice,q5];rw[iL (by rw[cz,aR,aR,<-O.ln,<-I.len];omega),dS (by rw[cz,aR,aR,<-O.ln,<-I.len];omega)];simp[Eng.ints]
   .have:g≠c:=U _ rfl;simp[qO,lY,this]
  .exact j (by omega)
theorem WW (hu:P.underlying t=some (.slice el))(hu2:P.underlying t2=some (.slice e2))(hi:(P.info? el).isSome=true)(hsz:szT P el=1)(hby:iA P el<=8)(hz:dJ P el=some (.int .i64 z)){cap:Nat}(hx:ev er x= .slice a len cap)(hy:ev er y= .slice b m c)(O:eG h0 h el a len cap xs)(h0h:h0<=h.size)(I:eu h b m ys)(hb:len+m<=100000)(H:∀a' cap' h',eG h0 h' el a' (len+m) cap' (xs++ys)->App h h' a a'->K (.slice a' (len+m) cap') h'):aI P (.call ⟨.builtin .append,#[x,y],#[t,t2]⟩) ty er h K:=by
 obtain⟨i,hi⟩:=bD.1 hi;refine Jn hu hu2 hi (by simpa[szT,hi]using hsz) (by simpa[iA,hi]using hby) (z:=z) (by simpa[dJ,hi]using hz) hx hy O h0h I hb H
def GM (m:Nat)(h':Heap)(el:TypeId)(v:Value)(xs:List Int):Prop:=∃a cap,v= .slice a xs.length cap/\eG m h' el a xs.length cap xs
theorem App.upd {h:Heap}{cap:Nat}{o:Obj}(A:App h h' a a')(O:eG m h el a len cap xs)(hc:h[c]? =some o)(hm:c<m):h'[c]? =some o:=
 (A.old c (bA hc) fun p j=>by have:=(O.lt j).2;omega).trans hc
theorem App.extN {h h1:Heap}{cap:Nat}(A:App h h' a a')(O:eG m h el a len cap xs)(x:Ext h1 h)(hm:h1.size<=m):Ext h1 h':=
 ⟨fw x.size A.size,fun c j=>(A.old c (bv j x.size) fun p q=>by have:=(O.lt q).2;omega).trans (x.old c j)⟩
theorem eG.upd {cap b:Nat}{h:Heap}(O:eG m h el a len cap xs)(u:Upd h h' b)(hb:b<m):eG m h' el a len cap xs:=
 O.keep fun p j=>u.old _ (by have:=(O.lt j).2;omega)
theorem eG.mono {cap m':Nat}{h:Heap}(O:eG m h el a len cap xs)(hm:m'<=m):eG m' h el a len cap xs:=by
 refine⟨O.ln,?_⟩;rcases O.ok with q|⟨g,j,q,w,r⟩
 .exact .inl q
 .exact .inr ⟨g,j,q,by omega,r⟩
theorem GM.mono {m':Nat}(N:GM m h' el v xs)(hm:m'<=m):GM m' h' el v xs:=by
 obtain⟨a,cap,j,q⟩:=N;exact⟨a,cap,j,q.mono hm⟩
theorem GM.upd {b:Nat}{h:Heap}(N:GM m h el v xs)(u:Upd h h' b)(hb:b<m):GM m h' el v xs:=by
 obtain⟨a,cap,j,q⟩:=N;exact⟨a,cap,j,q.upd u hb⟩
theorem GM.ext {h:Heap}(N:GM m h el v xs)(x:Ext h h'):GM m h' el v xs:=by
 obtain⟨a,cap,j,q⟩:=N;exact⟨a,cap,j,q.ext x⟩
theorem setRow_heap {w:World}{cur:Array Value}{fr:Nat×Nat}(q:w.heap[g]? =some (.cells cur ct fr))(l:List Value):(w.setRow g l.toArray).heap[g]? =some (.cells l.toArray ct fr)/\Upd w.heap (w.setRow g l.toArray).heap g:=by
 have j:=bA q;have A:=(eO.1 q).2;refine⟨by simp[qO,yE,j,A],by simp[qO],fun b r=> ?_⟩;simp[qO,lY,Ne.symm r]
theorem Xl (hu:P.underlying t=some (.slice el))(hz:dJ P el=some (.int .i64 z)){off:Nat}{cur:List Value}(hx:ev er x= .slice (some ⟨g,off,none⟩) n c)(hb:h[g]? =some (.cells cur.toArray ct (0,0)))(hl:off+n<=cur.length)(H:∀h',h'[g]? =some (.cells (splice cur off (aZ n (.int .i64 z))).toArray ct (0,0))->Upd h h' g->K (.tuple #[]) h'):aI P (.call ⟨.builtin .clear,#[x],#[t]⟩) ty er h K:=by
 unfold aI;refine aD rfl fun w O=> ?_
 subst O;have B:∃i,P.info? el=some i/\i.zero=some (.int .i64 z):=by
  unfold dJ at hz;cases hq:P.info? el with
  |none=>simp[hq]at hz
  |some i=>exact⟨i,rfl,by simpa[hq]using hz⟩
 obtain⟨i,B,hz⟩:=B;have r:∀A,(rf #[t] ty #[.slice (some ⟨g,off,none⟩) n c]).run P w= .ok (.tuple #[]) A->Rest w A->K (.tuple #[]) A.heap->
  dQ P w K ((execOp (ev er) {dst:=none,op:= .call ⟨.builtin .clear,#[x],#[t]⟩,type:=ty,pos:= "",after:= #[],guard:=none}).run P w):=by
  intro A J L N;have:(execOp (ev er) {dst:=none,op:= .call ⟨.builtin .clear,#[x],#[t]⟩,type:=ty,pos:= "",after:= #[],guard:=none}).run P w= .ok (.value (.tuple #[])) A:=by
   have j: #[x].map (ev er)= #[.slice (some ⟨g,off,none⟩) n c]:=by simp[hx]
   simp only[execOp,resolve,invoke,builtin,aY,bE,aN,j,J]
  rw[this];exact⟨N,L⟩
 cases n with
 |zero=>
  refine r w (by simp[rf,run_underlying hu]) (Rest.refl w) ?_;refine H _ ?_ ⟨rfl,fun _ _=>rfl⟩;rw[hb];simp[splice]
 |succ n=>
  have q:=run_storeCells_at P g off ct (aZ (n+1) (nX .i64 z)) 0 cur.toArray w hb (by simpa using hl) (fun x hx=>by rw[List.eq_of_mem_replicate hx];rfl);simp only[ko,List.length_replicate]at q;have I:(dn (nX .i64 z).cells (n+1)).toList=aZ (n+1) (nX .i64 z):=by
   unfold dn;rw[pW];simp[ny]
  refine r (w.setRow g (splice cur off (aZ (n+1) (.int .i64 z))).toArray) ?_ ⟨rfl,rfl,rfl⟩ ?_
  rotate_left
  .have G:cur.toArray.toList.take off++aZ (n+1) (nX .i64 z)++cur.toArray.toList.drop (off+(n+1))=splice cur off (aZ (n+1) (.int .i64 z)):=by simp[splice]
   exact H (w.setRow g (splice cur off (aZ (n+1) (.int .i64 z))).toArray).heap (setRow_heap hb _).1 (setRow_heap hb _).2
  .have G:cur.toArray.toList.take off++aZ (n+1) (nX .i64 z)++cur.toArray.toList.drop (off+(n+1))=splice cur off (aZ (n+1) (.int .i64 z)):=by simp[splice]
   rw[G]at q;simp only[rf,aY,run_underlying hu];have C:(zeroValue el).run P w= .ok (.int .i64 z) w:=by simp[zeroValue,typeInfo,B,hz]
   simp[run_underlying hu,C,I,q]
theorem Y9 (hu:P.underlying t=some (.slice el))(hu2:P.underlying t2=some (.slice e2))(hi:(P.info? el).isSome=true)(hsz:szT P el=1){off c2:Nat}{cur:List Value}(hx:ev er x= .slice (some ⟨g,off,none⟩) n c)(hy:ev er y= .slice b m c2)(hb:h[g]? =some (.cells cur.toArray ct (0,0)))(hl:off+n<=cur.length)(I:eu h b m ys)(H:∀h',h'[g]? =some (.cells (splice cur off (ints (ys.take n))).toArray ct (0,0))->Upd h h' g->K (.int .i64 (min m n:Nat)) h'):aI P (.call ⟨.builtin .copy,#[x,y],#[t,t2]⟩) ty er h K:=by
 unfold aI;refine aD rfl fun w N=> ?_
 subst N;obtain⟨i,hi⟩:=bD.1 hi;have hsz:i.size=1:=by simpa[szT,hi]using hsz
 have L:=I.len;have A:=GH (P:=P) (w:=w) (c:=c2) (k:=min m n) I (Nat.min_le_left _ _);have G:(ints ys).take (min m n)=ints (ys.take n):=by
  simp only[ints,AL];rw[List.take_eq_take_iff];simp;omega
 rw[G]at A;have r:(ints (ys.take n)).length=min m n:=by rw[aR,kD];omega
 have q:=run_storeCells_at P g off ct (ints (ys.take n)) 0 cur.toArray w hb (by rw[r];simp;omega) (fun x hx=>by simp only[ints,fo]at hx;obtain⟨_,_,rfl⟩:=hx;rfl);simp only[ko]at q;have B:cur.toArray.toList.take off++ints (ys.take n)++cur.toArray.toList.drop (off+(ints (ys.take n)).length)=splice cur off (ints (ys.take n)):=by simp[splice]
 rw[B]at q;have J:(zS #[t,t2] ty #[.slice (some ⟨g,off,none⟩) n c,.slice b m c2]).run P w= .ok (.int .i64 (min m n:Nat)) (w.setRow g (splice cur off (ints (ys.take n))).toArray):=by
  have C:Nat.min m n=min m n:=rfl;simp only[zS,aY,run_underlying hu,sizeOf,typeInfo];simp[run_underlying hu,hi,hsz,zW,C,A,q,goInt]
 have j: #[x,y].map (ev er)= #[.slice (some ⟨g,off,none⟩) n c,.slice b m c2]:=by simp[hx,hy]
 have:(execOp (ev er) {dst:=none,op:= .call ⟨.builtin .copy,#[x,y],#[t,t2]⟩,type:=ty,pos:= "",after:= #[],guard:=none}).run P w= .ok (.value (.int .i64 (min m n:Nat))) (w.setRow g (splice cur off (ints (ys.take n))).toArray):=by
  simp only[execOp,resolve,invoke,builtin,aY,bE,aN,j,J]
 rw[this];exact⟨H _ (setRow_heap hb _).1 (setRow_heap hb _).2,rfl,rfl,rfl⟩
theorem eG.block {cap:Nat}{h:Heap}(O:eG m h el a len cap xs)(hn:0<len):∃g tl,a=some ⟨g,0,none⟩/\m<=g/\h[g]? =some (.cells (Eng.ints xs++tl).toArray el (0,0))/\cap<=len+tl.length/\len<=cap/\len=xs.length:=by
 rcases O.ok with⟨_,q,_⟩|⟨g,j,rfl,q,r,B,w,A⟩
 .omega
 .refine⟨g,j.toList.drop len,rfl,q,?_,by simp;omega,w,O.ln⟩;rw[r,<-A,List.take_append_drop]
theorem eG.of_block {cap:Nat}{tl:List Value}{h:Heap}(hg:m<=g)(hb:h[g]? =some (.cells (Eng.ints xs++tl).toArray el (0,0)))(hc:cap<=xs.length+tl.length)(hc2:xs.length<=cap):eG m h el (some ⟨g,0,none⟩) xs.length cap xs:=
 ⟨rfl,.inr ⟨g,_,rfl,hg,hb,by simp[aR];omega,hc2,by simp[aR]⟩⟩
theorem zBW {z:Option Value}{pl:Nat->Option (Nat×Nat)}{parts:List (Nat×Value)}{F:Prop}:Ci false z pl parts h K F=F:=by simp only[Ci]
theorem XT {z:List Value}(hu:P.underlying t=some (.array n el))(hi:(P.info? el).isSome=true)(hz:dJ P t=some (.agg z.toArray))(H:K (.agg z.toArray) h):aI P (.build t #[]) ty er h K:=by
 obtain⟨i,hi⟩:=bD.1 hi;refine aK rfl _ H fun w _=> ?_
 have j:(zeroValue t).run P w= .ok (.agg z.toArray) w:=by
  unfold dJ at hz;cases hj:P.info? t with
  |none=>simp[hj]at hz
  |some i=>simp only[hj,kE]at hz;simp[zeroValue,typeInfo,hj,hz]
 simp only[execOp,Instr.build,aY,j,aN,run_underlying hu];simp[sizeOf,typeInfo,hi,ny,Instr.fill]
end
section eqs
open Go.Run
theorem FP {ι:Io}:∀xs:List Int,VL ι (xs.map (T.int .i64)) (Eng.ints xs)
 |[]=>by simp[Eng.ints,VL]
 |x::xs=>by
  have:=FP (ι:=ι) xs;simp only[Eng.ints,lT,VL,VR]at this ⊢;exact⟨_,_,rfl,rfl,this⟩
theorem EP:∀(xs ys:List Int),xs.length=ys.length->gZ (aZ xs.length .i) (xs.map (T.int .i64)) (ys.map (T.int .i64))=some (decide (xs=ys))
 |[],[],_=>rfl
 |x::xs,y::ys,h=>by
  have r:=EP xs ys (by simpa using h);have w:Ir .i64 .i64=true:=rfl;simp only[List.length_cons,List.replicate_succ,lT,gZ,ry,w];by_cases j:x=y
  .have q:yF x y=true:=by rw[<-za];simpa using j
   rw[q,r];simp[j]
  .have q:yF x y=false:=by rw[<-za];simpa using j
   rw[q];simp[j]
theorem ZT {p:Pr}(ok:Ok P p){u yt:TypeId}{ti:TI}(hti:p.ty u=some ti){a b:T}{v w:Value}{r:Bool}(hv:VR (fun _=>none) a v)(hw:VR (fun _=>none) b w)(he:mG ti a b=some r){op:BinOp}(ho:op= .eql\/op= .neq)
 {x y:Operand} (hx:ev er x=v) (hy:ev er y=w) {K:Value->Heap->Prop} (H:K (.bool (if op= .eql then r else !r)) h):aI P (.binOp op u x y yt) ty er h K:=by
 refine aK rfl _ H fun W A=> ?_
 obtain⟨j,⟨c,d,rfl,rfl⟩,q,_⟩:=jW (ok.tf hti) hv hw he W;have:(do eqGuard op u x y (.agg c) (.agg d);Go.binOp op u (.agg c) (.agg d):Sem Value).run P W= .ok (.bool (if op= .eql then r else !r)) W:=by
  rcases ho with rfl|rfl<;>simp[eqGuard,q,Go.binOp,j]
 simp only[execOp,aY,hx,hy]at this ⊢;rw[this];rfl
end eqs
section
variable {a b:Option Addr}{cb:Nat}{el el2:TypeId}{h':Heap}{lb len m mb:Nat}{xs ys:List Int}
theorem XU {n c lo hi:Nat}(I:eu h a n xs)(h1:lo<=hi)(h2:hi<=n)(h3:n<=c):eu h (if(c:Int)=(lo:Int)then a else lg a lo) (hi-lo) ((xs.drop lo).take (hi-lo)):=by
 have q:=I.len;refine⟨by simp;omega,?_⟩;split
 .rename_i j;have:hi-lo=0:=by omega
  rw[this];exact .inl (by simp[Eng.ints])
 .have:=I.row.sub lo (hi-lo) (by rw[aR];omega);rwa[show((Eng.ints xs).drop lo).take (hi-lo)=Eng.ints ((xs.drop lo).take (hi-lo)) by simp[Eng.ints,AL,List.map_drop]]at this
theorem eG.cut {cap:Nat}(O:eG m h el a len cap xs):eG m h el a len len xs:=by
 refine⟨O.ln,?_⟩;rcases O.ok with⟨r,j,w⟩|⟨g,q,r,j,w,B,C,A⟩
 .exact .inl ⟨r,j,j⟩
 .exact .inr ⟨g,q,r,j,w,by omega,bi _,A⟩
def Apart (a b:Option Addr):Prop:=∀p q,a=some p->b=some q->p.block≠q.block
theorem Apart.symm (H:Apart a b):Apart b a:=fun p q r w j=>H q p w r j.symm
theorem Apart.app {a':Option Addr}{h:Heap}(hne:Apart a b)(A:App h h' a a')(B:eG mb h el2 b lb cb ys):Apart a' b:=by
 intro p q C j;have:=(B.lt j).1;rcases A.to p C with⟨r,G,w⟩|H
 .rw[<-w];exact hne r q G j
 .omega
theorem eG.apart {cap:Nat}{h:Heap}(O:eG m h el a len cap xs)(B:eG mb h' el2 b lb cb ys)(hm:h.size<=mb):Apart a b:=by
 intro p q j r;have:=(O.lt j).1;have:=(B.lt r).2;omega
theorem eG.take {cap:Nat}(O:eG m h el a len cap xs){k:Nat}(hk:k<=len):eG m h el a k cap (xs.take k):=by
 refine⟨by have:=O.ln;simp;omega,?_⟩;rcases O.ok with⟨q,w,r⟩|⟨g,j,q,w,r,A,C,B⟩
 .exact .inl ⟨q,by omega,r⟩
 .refine .inr ⟨g,j,q,w,r,A,by omega,?_⟩;have:(j.toList.take len).take k=(Eng.ints xs).take k:=by rw[B]
  rw[lX,show min k len=k by omega]at this;rw[this];simp[Eng.ints,AL]
theorem eG.tail {cap g off:Nat}{vs:List Value}{cur:List Value}{h:Heap}(O:eG m h el (some ⟨g,0,none⟩) len cap xs)(hb:h[g]? =some (.cells cur.toArray el (0,0)))(hb':h'[g]? =some (.cells (splice cur off vs).toArray el (0,0)))(ho:len<=off)(hl:off+vs.length<=cur.length):eG m h' el (some ⟨g,0,none⟩) len cap xs:=by
 rcases O.ok with⟨j,_⟩|⟨r,q,j,q1,q2,q3,q4,q5⟩
 .cases j
 cases j;rw[hb]at q2;cases q2;refine⟨O.ln,.inr ⟨g,_,rfl,q1,hb',by simp[splice]at q3 ⊢;omega,q4,?_⟩⟩;rw[<-q5];simp only[splice,pE];rw[iL (by rw[kD];omega),lX];congr 1;omega
end
section bools
open Go.Run
section
variable {K:Value->Heap->Prop}{a b:Bool}{u:TypeId}{x y:Operand}{yt:TypeId}
end
end bools
end apps
end Go.Eng
namespace Go.Eng
open Go
section vrows
variable {P:Program}{h0:Nat}{h:Heap}{er:Env}{ty:TypeId}
section
variable {a b:Option Addr}{c:Nat}{e2 el:TypeId}{h':Heap}{len m s:Nat}{t2:TypeId}{vs:List Value}
structure iV (h0:Nat)(h:Heap)(el:TypeId)(s:Nat)(a:Option Addr)(len cap:Nat)(vs:List Value):Prop where
 ln:vs.length=len*s
 ok:(a=none/\len=0/\cap=0)\/∃g cur,a=some ⟨g,0,none⟩/\h0<=g/\h[g]? =some (.cells cur el (0,0))/\cap*s<=cur.size/\len<=cap/\cur.toList.take (len*s)=vs
theorem iV.nil (h0:Nat)(h:Heap)(el:TypeId)(s:Nat):iV h0 h el s none 0 0 []:=⟨by simp,.inl ⟨rfl,rfl,rfl⟩⟩
theorem iV.row {cap:Nat}(O:iV h0 h el s a len cap vs):Row h a vs:=by
 have q:=O.ln;rcases O.ok with⟨rfl,r,_⟩|⟨g,j,rfl,r,w,C,A,B⟩
 .left;rw[r,Nat.zero_mul]at q;exact eQ.1 q
 .right;have:len*s<=cap*s:=kz _ A;exact⟨g,0,j,el,(0,0),rfl,w,by omega,by rw[IX,q];exact B⟩
theorem iV.cap {cap:Nat}(O:iV h0 h el s a len cap vs):len<=cap:=by
 rcases O.ok with⟨_,q,r⟩|⟨g,j,_,_,_,_,w,_⟩<;>omega
theorem iV.keep {cap:Nat}(O:iV h0 h el s a len cap vs)(hk:∀p,a=some p->h'[p.block]? =h[p.block]?):iV h0 h' el s a len cap vs:=by
 refine⟨O.ln,?_⟩;rcases O.ok with q|⟨g,j,rfl,q,r,w⟩
 .exact .inl q
 .exact .inr ⟨g,j,rfl,q,(hk _ rfl).trans r,w⟩
theorem iV.lt {cap:Nat}(O:iV h0 h el s a len cap vs){p:Addr}(hp:a=some p):p.block<h.size/\h0<=p.block:=by
 rcases O.ok with⟨j,_⟩|⟨g,q,j,r,w,A⟩
 .rw[j]at hp;cases hp
 .rw[j]at hp;cases hp;exact⟨bA w,r⟩
theorem iV.ext {cap:Nat}(O:iV h0 h el s a len cap vs)(x:Ext h h'):iV h0 h' el s a len cap vs:=O.keep fun p j=>x.old _ (O.lt j).1
theorem iV.upd {cap b:Nat}(O:iV h0 h el s a len cap vs)(u:Upd h h' b)(hb:b<h0):iV h0 h' el s a len cap vs:=
 O.keep fun p j=>u.old _ (by have:=(O.lt j).2;omega)
theorem iV.mono {cap m':Nat}(O:iV h0 h el s a len cap vs)(hm:m'<=h0):iV m' h el s a len cap vs:=by
 refine⟨O.ln,?_⟩;rcases O.ok with q|⟨g,j,q,w,r⟩
 .exact .inl q
 .exact .inr ⟨g,j,q,by omega,r⟩
theorem App.updV {h:Heap}{a':Option Addr}{cap:Nat}{o:Obj}(A:App h h' a a')(O:iV m h el s a len cap vs)(hc:h[c]? =some o)(hm:c<m):h'[c]? =some o:=
 (A.old c (bA hc) fun p j=>by have:=(O.lt j).2;omega).trans hc
theorem App.extV {h h1:Heap}{a':Option Addr}{cap:Nat}(A:App h h' a a')(O:iV m h el s a len cap vs)(x:Ext h1 h)(hm:h1.size<=m):Ext h1 h':=
 ⟨fw x.size A.size,fun c j=>(A.old c (bv j x.size) fun p q=>by have:=(O.lt q).2;omega).trans (x.old c j)⟩
theorem qJ {w:World}{k:Nat}(H:Row w.heap b vs)(hl:vs.length=m*s)(hk:k<=m):(bS s k (.slice b m c)).run P w= .ok (vs.take (k*s)).toArray w:=by
 have J:k*s<=m*s:=kz _ hk;cases b with
 |none=>
  rcases H with r|⟨g,A,B,ct,C,r,_⟩
  .simp[bS,r]
  .cases r
 |some a=>
  rcases H with r|⟨g,A,B,ct,C,r,G,L,I⟩
  .subst r;have h0:k*s=0:=by simp at hl;omega
   have:=run_firstCells_some (P:=P) w s k a m c [] (by simp[h0]) (by simp);simpa using this
  .cases r;refine run_firstCells_some w s k ⟨g,A,none⟩ m c _ (by rw[kD];omega) fun j u q=> ?_
   rw[<-I,eD]at q;split at q
   .rw[eD]at q;split at q
    .rw[kL]at q;exact Go.Run.vF G (by simpa using q)
    .cases q
   .cases q
theorem Nr {ats:Array TypeId}(h1:ats[1]? =some t2)(hu:P.underlying t2=some (.slice e2))(H:Row h b vs)(hl:vs.length=m*s):Go.Run.Src P ats h s m (.slice b m c) vs:=by
 refine⟨⟨t2,_,h1,hu,.inl ⟨e2,rfl⟩⟩,fun w _=>by simp[zW],fun w j=> ?_,fun _ n q w j=> ?_⟩
 .subst j;have:=qJ (P:=P) (c:=c) H hl (bi m);rwa[dS (by omega)]at this
 .subst j;exact qJ (P:=P) (c:=c) H hl q
theorem iF (z:Array Value)(n:Nat):(dn z n).size=n*z.size:=by simp[dn]
theorem Ie {t:TypeId}{i:TypeInfo}{z:Value}(hu:P.underlying t=some (.slice el))(hu2:P.underlying t2=some (.slice e2))(hi:P.info? el=some i)(hsz:i.size=s)(hz:i.zero=some z)(hzs:z.cells.size=s){x y:Operand}{cap:Nat}{xs ys:List Value}{K:Value->Heap->Prop}(hx:ev er x= .slice a len cap)(hy:ev er y= .slice b m c)(O:iV h0 h el s a len cap xs)(h0h:h0<=h.size)(I:Row h b ys)(hyl:ys.length=m*s)(h1:∀u∈ys,u.oneCell'=true)(hb:len+m<=1000000)(hby:(len+m)*i.bytes<=1000000)(H:∀a' cap' h',iV h0 h' el s a' (len+m) cap' (xs++ys)->App h h' a a'->K (.slice a' (len+m) cap') h'):aI P (.call ⟨.builtin .append,#[x,y],#[t,t2]⟩) ty er h K:=by
 unfold aI;refine aD rfl fun w hw=> ?_
 subst hw;have J:=O.ln;have q:(xs++ys).length=(len+m)*s:=by rw[cz,O.ln,hyl,lc]
 have W:=Nr (P:=P) (ats:= #[t,t2]) (c:=c) rfl hu2 I hyl;have r: #[x,y].map (ev er)= #[.slice a len cap,.slice b m c]:=by simp[hx,hy]
 have A:∀v B,(gY #[t,t2] ty #[.slice a len cap,.slice b m c]).run P w= .ok v B->Rest w B->K v B.heap->
  dQ P w K ((execOp (ev er) {dst:=none,op:= .call ⟨.builtin .append,#[x,y],#[t,t2]⟩,type:=ty,pos:= "",after:= #[],guard:=none}).run P w):=by
  intro v B h1 h2 h3;have:(execOp (ev er) {dst:=none,op:= .call ⟨.builtin .append,#[x,y],#[t,t2]⟩,type:=ty,pos:= "",after:= #[],guard:=none}).run P w= .ok (.value v) B:=by
   simp only[execOp,resolve,invoke,builtin,aY,bE,aN,r,h1]
  rw[this];exact⟨h3,h2⟩
 have j:cap<len+m->dQ P w K ((execOp (ev er) {dst:=none,op:= .call ⟨.builtin .append,#[x,y],#[t,t2]⟩,type:=ty,pos:= "",after:= #[],guard:=none}).run P w):=by
  intro N;have C:=Go.Run.uy (P:=P) (ty:=ty) (ats:= #[t,t2]) (z:=z) (sLen:=len) (sCap:=cap) (b:=a) (olds:=xs) rfl hu hi hz w (by rw[hsz];exact W)
   (fun B Z=>by
    have hI:=O.row;rw[<-Z]at hI;have:=qJ (P:=P) (c:=cap) hI O.ln (bi len);rw[dS (by omega)]at this;rw[hsz];exact this) N (by omega) (by omega)
  have L:=grownCap_ge w (len+m) cap el;refine A _ _ C ⟨rfl,rfl,rfl⟩ (H _ _ _ ⟨q,.inr ⟨w.heap.size,_,rfl,h0h,jD,?_,L,?_⟩⟩ ⟨by simp,fun c hc _=> ?_,fun p G=> ?_⟩)
  .have e1:(len+m)*s+(grownCap w (len+m) cap el-(len+m))*s=grownCap w (len+m) cap el*s:=by rw[<-lc];congr 1;omega
   simp only[uE,cz,dC,iF,hzs,J,hyl,lc]at e1 ⊢;omega
  .rw[dG,iL (by omega),dS (by omega)]
  .show(w.heap.push _)[c]? =_;rw[uo,if_neg (by omega)]
  .cases G;exact .inr (bi _)
 rcases O.ok with⟨rfl,rfl,rfl⟩|⟨g,cur,rfl,q1,q2,q3,q4,q5⟩
 .by_cases hm:m=0
  .subst hm;have hy0:ys=[]:=eQ.1 (by simpa using hyl);have hx0:xs=[]:=eQ.1 (by simpa using J);have C:=Go.Run.zZ (P:=P) (ty:=ty) (ats:= #[t,t2]) rfl hu hi w (x:= .slice b 0 c) (news:=ys) (by rw[hsz];exact W);exact A _ _ C (Rest.refl w) (H none 0 w.heap ⟨by rw[hx0,hy0];simp,.inl ⟨rfl,rfl,rfl⟩⟩ ⟨bi _,fun _ _ _=>rfl,fun p G=>by cases G⟩)
  .exact j (by omega)
 .by_cases V:len+m<=cap
  .have R:(len+m)*s<=cap*s:=kz _ V;rw[lc]at R;have C:=Go.Run.oq (P:=P) (ty:=ty) (ats:= #[t,t2]) (sLen:=len) (sCap:=cap) (off:=0) rfl hu hi w (by rw[hsz];exact W) q2 h1 V (by rw[hsz];omega);refine A _ _ C ⟨rfl,rfl,rfl⟩ (H _ _ _ ⟨q,.inr ⟨g,_,rfl,q1,(setRow_heap q2 _).1,?_,V,?_⟩⟩ ⟨by simp[qO],fun c hc U=> ?_,fun p G=> .inl ⟨p,G,rfl⟩⟩)
   .simp[splice,hsz];omega
   .rw[dG,hsz,ek,splice,q5];rw[iL (by omega),dS (by omega)]
   .have:g≠c:=U _ rfl;simp[qO,lY,this]
  .exact j (by omega)
theorem WZ {t:TypeId}{z:Value}(hu:P.underlying t=some (.slice el))(hu2:P.underlying t2=some (.slice e2))(hi:(P.info? el).isSome=true)(hsz:szT P el=s)(hz:dJ P el=some z)(hzs:z.cells.size=s){x y:Operand}{cap:Nat}{xs ys:List Value}{K:Value->Heap->Prop}(hx:ev er x= .slice a len cap)(hy:ev er y= .slice b m c)(O:iV h0 h el s a len cap xs)(h0h:h0<=h.size)(I:Row h b ys)(hyl:ys.length=m*s)(h1:∀u∈ys,u.oneCell'=true)(hb:len+m<=1000000)(hby:(len+m)*iA P el<=1000000)(H:∀a' cap' h',iV h0 h' el s a' (len+m) cap' (xs++ys)->App h h' a a'->K (.slice a' (len+m) cap') h'):aI P (.call ⟨.builtin .append,#[x,y],#[t,t2]⟩) ty er h K:=by
 obtain⟨i,hi⟩:=bD.1 hi;refine Ie hu hu2 hi (by simpa[szT,hi]using hsz) (z:=z) (by simpa[dJ,hi]using hz) hzs hx hy O h0h I hyl h1 hb (by simpa[iA,hi]using hby) H
end
end vrows
theorem Zd {P:Program}{x:Operand}{ty:TypeId}{e:Env}{h:Heap}{K:Value->Heap->Prop}:opW P (.entry x) ty e h K=aI P (.entry x) ty e h K:=by
 unfold opW pvW zH;rfl
section steps
variable {l:Option Nat}{P:Program}{e:Env}{d:List Deferred}{h:Heap}{k:aj}
theorem zBy {a b:Code}(H:WP l P a (iC (fun e d h=>WP l P b k e d h) k) e d h):WP l P (.seq a b) k e d h:=by
 unfold WP at *;refine fun w B=>wpIn_seq (wpIn_mono (H w B) ?_)
 rintro x a' C ⟨j,A⟩;unfold iC at j;cases x with
 |normal=>
  have r:=j C rfl;rw[dA]at r;exact wpIn_mono r fun x a G q=>⟨q.1,A.trans q.2⟩
 |_=>exact⟨j,A⟩
theorem zB4 {c:Operand}{x y:Code}{b:Bool}(hb:ev e c= .bool b)(H:WP l P (if b then x else y) k e d h):WP l P (.cond c x y) k e d h:=by
 unfold WP at *;refine fun w q=>wpIn_cond_split (t:=b) (by rw[dY];exact hb) (fun j=> ?_) (fun j=> ?_)
 .subst j;exact H w q
 .subst j;exact H w q
def Ty (P:Program)(all:List Oper):Nat->List Oper->aj->Env->List Deferred->Heap->Prop
 |_,[],_,_,_,_=>False
 |0,o::rest,k,e,d,h=>o.guard=none/\aI P o.op o.type e h (fun v h'=>dN P all rest k (aU e o.dst v) d h')
 |j+1,o::rest,k,e,d,h=>o.guard=none/\opW P o.op o.type e h (fun v h'=>Ty P all j rest k (aU e o.dst v) d h')
theorem yf {all:List Oper}{w0:World}:∀(j:Nat) (ops:List Oper) (e:Env) (d:List Deferred) (w:World),Eng.Rest w0 w->Ty P all j ops k e d w.heap->
 wpListIn (fen l) 0 P all.toArray (fun x a w'=>k x a.tmps.toList a.defers w'.heap/\Eng.Rest w0 w') ops ⟨e.toArray,d⟩ w
 |j,[],e,d,w,hr,H=>by cases j<;>exact H.elim
 |0,o::rest,e,d,w,hr,H=>by
  obtain⟨A,H⟩:=H;unfold wpListIn;have C:fe o (yielded all.toArray e.toArray)=true:=by simp[fe,A]
  simp only[C,if_true];refine iW (bH ?_ H);intro v h' B w' r q;subst r;exact mW rest _ d w' (hr.trans q) B
 |j+1,o::rest,e,d,w,hr,H=>by
  obtain⟨A,H⟩:=H;unfold wpListIn;have C:fe o (yielded all.toArray e.toArray)=true:=by simp[fe,A]
  simp only[C,if_true];refine iW (bH ?_ (aM H));intro v h' B w' r q;subst r;exact yf j rest _ d w' (hr.trans q) B
theorem Ym {id:Nat}{ops:List Oper}(j:Nat)(H:Ty P ops j ops k e d h):WP l P (.region id ops.toArray false) k e d h:=by
 unfold WP;intro w q;subst q;exact wpIn_region_list (by have:=yf (l:=l) (w0:=w) j ops e d w (Eng.Rest.refl w) H;simpa using this)
end steps
section maps
open Go.Run
variable {P:Program}{h:Heap}{er:Env}{ty:TypeId}{α:Type}
section
variable {Q:Value->Heap->Prop}{b c:Nat}{es:List (α×Value×Nat)}{kv:α->Value}{x:Operand}
def dE (kv:α->Value)(x:α×Value×Nat):MapEntry:={key:=kv x.1,val:=x.2.1,born:=x.2.2}
theorem DW {kv:α->Value}:∀(es:List (α×Value×Nat)) (j:Nat),(es.map (dE kv)).eraseIdx j=(es.eraseIdx j).map (dE kv)
 |[],j=>by simp
 |x::r,0=>by simp
 |x::r,j+1=>by simp[DW r j]
structure jU (kv:α->Value)(h:Heap)(b:Nat)(es:List (α×Value×Nat))(c:Nat):Prop where
 obj:h[b]? =some (.map (es.map (dE kv)).toArray c)
 born:(es.map (·.2.2)).Pairwise (·<·)
 lt:∀x∈es,x.2.2<c
theorem jU.empty (h:Heap):jU kv (h.push (.map #[] 0)) h.size [] 0:=⟨by simp,by simp,by simp⟩
theorem jU.keep {h':Heap}(M:jU kv h b es c)(hk:h'[b]? =h[b]?):jU kv h' b es c:=⟨hk.trans M.obj,M.born,M.lt⟩
theorem jU.ext {h':Heap}(M:jU kv h b es c)(x:Ext h h'):jU kv h' b es c:=M.keep (x.old _ (bA M.obj))
theorem qy {o o':Obj}(hb:h[b]? =some o):(h.setIfInBounds b o')[b]? =some o'/\Upd h (h.setIfInBounds b o') b:=by
 have q:=bA hb;exact⟨by simp[nY,q],by simp,fun r j=>Array.getElem?_setIfInBounds_ne (Ne.symm j)⟩
theorem Yg {u kt vt:TypeId}(hu:P.underlying u=some (.map kt vt))(M:jU kv h b es c)(hx:ev er x= .map (some b))(H:Q (.pointer (some ⟨h.size,0,none⟩)) (h.push (.mapIter (some b) c #[] c))):aI P (.range u x) ty er h Q:=by
 refine az rfl (.pointer (some ⟨h.size,0,none⟩)) (h.push (.mapIter (some b) c #[] c)) H fun w q=> ?_
 subst q;have j:=bR (P:=P) M.obj;exact⟨{w with heap:=w.heap.push (.mapIter (some b) c #[] c)},by simp[execOp,Instr.range,hx,run_underlying hu,j],rfl,rfl,rfl,rfl⟩
theorem Ha (es:List (α×Value×Nat))(seen:Array Nat):(leftOf (es.map (dE kv)).toArray seen).toList=(es.filter fun x=> !seen.contains x.2.2).map (dE kv):=by
 unfold leftOf;rw[Array.toList_filter,dG,List.filter_map];rfl
theorem zAK {r since c0:Nat}{seen:Array Nat}(M:jU kv h b es c)(hr:h[r]? =some (.mapIter (some b) since seen c0))(hold:∀x∈es,x.2.2<since)(hsc:since<=c0)(hx:ev er x= .pointer (some ⟨r,0,none⟩))(H0:(∀x∈es,seen.contains x.2.2=true)->Q (.tuple #[.bool false]) h)(H1:∀e∈es,seen.contains e.2.2=false->∀h',h'[r]? =some (.mapIter (some b) since (seen.push e.2.2) c)->Upd h h' r->Q (.tuple #[.bool true,kv e.1,e.2.1]) h'):aI P (.next x false) ty er h Q:=by
 unfold aI;refine aD rfl fun w C=> ?_
 have G:=M.obj;rw[<-C]at G hr;rcases run_next_at (P:=P) w ty r b since c0 seen _ c hr G (fun y B=>by
  rw[dG]at B;obtain⟨q,j,rfl⟩:=fo.1 B;exact hold q j) hsc with⟨A,h2⟩|⟨e,he,w1,hw1,hrun⟩
 .have:(execOp (ev er) {dst:=none,op:= .next x false,type:=ty,pos:= "",after:= #[],guard:=none}).run P w= .ok (.value (.tuple #[.bool false])) w:=by
   simp[execOp,hx,h2]
  rw[this];refine⟨?_,Rest.refl w⟩;rw[C];refine H0 fun y B=> ?_
  rw[<-dC,Ha]at A;have A:=eQ.1 A;rw[List.map_eq_nil_iff,List.filter_eq_nil_iff]at A;have:=A y B;simpa using this
 .rw[Ha]at he;obtain⟨q,j,rfl⟩:=fo.1 he;have j:=List.mem_filter.1 j;have:(execOp (ev er) {dst:=none,op:= .next x false,type:=ty,pos:= "",after:= #[],guard:=none}).run P w= .ok (.value (.tuple #[.bool true,kv q.1,q.2.1])) (ChangeMaps.setBlock w1 r (.mapIter (some b) since (seen.push q.2.2) c)):=by
   simp only[execOp,hx,aY,hrun,aN,bE,dE]
  rw[this];have H:=qy (o':= .mapIter (some b) since (seen.push q.2.2) c) hr;refine⟨H1 q j.1 (by simpa using j.2) _ ?_ ?_,?_⟩
  .rcases hw1 with rfl|rfl<;>exact H.1
  .rw[<-C];rcases hw1 with rfl|rfl<;>exact H.2
  .rcases hw1 with rfl|rfl<;>exact⟨rfl,rfl,rfl⟩
theorem Yi {r since:Nat}{seen:Array Nat}(M:jU kv h b es c){e:α×Value×Nat}(he:e∈es)(hr:h[r]? =some (.mapIter (some b) since (seen.push e.2.2) c))(hx:ev er x= .pointer (some ⟨r,0,none⟩))(H:Q (.tuple #[kv e.1,e.2.1]) h):aI P (.entry x) ty er h Q:=by
 refine aK rfl _ H fun w q=> ?_
 have j:=M.obj;rw[<-q]at j hr;have:=run_entry_at (P:=P) w r b since seen _ c (dE kv e) hr j (by rw[dG];exact fo.2 ⟨e,he,rfl⟩) (by
  rw[dG,List.map_map];exact M.born.imp (fun h=>Nat.ne_of_lt h))
 simp only[execOp,hx,aY,this,aN,bE,dE]
end
variable [DecidableEq α]
section
variable {Q:Value->Heap->Prop}{a:α}{b c:Nat}{es:List (α×Value×Nat)}{kt:TypeId}{kv:α->Value}{u vt:TypeId}{x:Operand}
def ku (a:α):List (α×Value×Nat)->Nat->Option (Nat×Value)
 |[],_=>none
 |x::r,i=>if a=x.1 then some (i,x.2.1)else ku a r (i+1)
def fZ (a:α):List (α×Value×Nat)->Option Value
 |[]=>none
 |x::r=>if a=x.1 then some x.2.1 else fZ a r
def fF (a:α)(v:Value)(c:Nat):List (α×Value×Nat)->List (α×Value×Nat)
 |[]=>[(a,v,c)]
 |x::r=>if a=x.1 then(a,v,x.2.2)::r else x::fF a v c r
def lW (a:α):List (α×Value×Nat)->List (α×Value×Nat)
 |[]=>[]
 |x::r=>if a=x.1 then r else x::lW a r
theorem jY {a:α}:∀{es:List (α×Value×Nat)} {i:Nat},ku a es i=none->fZ a es=none/\(∀v c,fF a v c es=es++[(a,v,c)])/\lW a es=es
 |[],i,_=>⟨rfl,fun _ _=>rfl,rfl⟩
 |x::r,i,h=>by
  unfold ku at h;split at h
  .cases h
  .rename_i j;obtain⟨q,w,A⟩:=jY h;exact⟨by simp[fZ,j,q],fun v c=>by simp[fF,j,w],by simp[lW,j,A]⟩
theorem jT {a:α}:∀{es:List (α×Value×Nat)} {i j:Nat} {u:Value},ku a es i=some (j,u)->
 ∃k x,j=i+k/\es[k]? =some x/\x.1=a/\x.2.1=u/\fZ a es=some u/\(∀v c,fF a v c es=es.modify k (fun x=>(a,v,x.2.2)))/\lW a es=es.eraseIdx k
 |[],i,j,u,h=>by cases h
 |x::r,i,j,u,h=>by
  unfold ku at h;split at h
  .rename_i q;cases h;exact⟨0,x,rfl,rfl,q.symm,rfl,by simp[fZ,q],fun v c=>by simp[fF,q],by simp[lW,q]⟩
  .rename_i q;obtain⟨k,y,I,w,A,B,C,G,H⟩:=jT h;exact⟨k+1,y,by omega,by simpa using w,A,B,by simp[fZ,q,C],fun v c=>by simp[fF,q,G],by simp[lW,q,H]⟩
structure Keys (P:Program)(kt:TypeId)(kv:α->Value):Prop where
 find:∀(a:α) (es:List (α×Value×Nat)) (W:World),(Instr.findKey kt (kv a) (es.map (dE kv))).run P W= .ok (ku a es 0) W
 check:∀(a:α) (em:Bool) (W:World),(Instr.checkKey em 10000 kt (kv a)).run P W= .ok () W
 stays:∀(a:α) (W:World),(Instr.keyThatStays (kv a) (kv a)).run P W= .ok (kv a) W
theorem Hu {kt:TypeId}{ki:TI}{kf:α->T}{kv:α->Value}(tf:TF P kt ki)(vr:∀a,VR (fun _=>none) (kf a) (kv a))(eq:∀a b,fV ki (kf a) (kf b)=some (decide (a=b)))(a:α)(W:World):
 ∀(es:List (α×Value×Nat)) (i:Nat),(mK kt (kv a) (es.map (dE kv)) i).run P W= .ok (ku a es i) W
 |[],i=>by simp[mK,ku]
 |x::es,i=>by
  obtain⟨q1,_⟩:=xk tf (vr a) (vr x.1) (eq a x.1) W;have q:=Hu tf vr eq a W es (i+1);by_cases j:a=x.1
  .subst j;simp only[decide_true]at q1;simp[mK,ku,dE,q1,cZ]
  .simp[mK,ku,dE,q1,j,cZ]at q1 q ⊢;exact q
theorem Keys.flat {ki:TI}{kf:α->T}(hw:(match P.underlying kt with|some (.array _ _)|some (.struct _)=>true|_=>false)=true)(tf:TF P kt ki)(vr:∀a,VR (fun _=>none) (kf a) (kv a))(eq:∀a b,fV ki (kf a) (kf b)=some (decide (a=b))):Keys P kt kv where
 find a es W:=by
  rw[run_findKey_eq W hw];exact Hu tf vr eq a W es 0
 check a em W:=gM tf (vr a) (by rw[eq a a];simp) em W
 stays a W:=xS (vr a) (by rw[eq a a];simp) W
def jJ (a:α)(es:List (α×Value×Nat))(c:Nat):Nat:=if(fZ a es).isSome then c else c+1
theorem CL {a:α}{v:Value}{c:Nat}:∀{es:List (α×Value×Nat)},(fF a v c es).map (·.2.2)=es.map (·.2.2)++(if(fZ a es).isSome then[]else[c])
 |[]=>rfl
 |x::r=>by
  by_cases j:a=x.1
  .simp[fF,fZ,j]
  .simp[fF,fZ,j,CL (es:=r)]
theorem zY {a:α}:∀{es:List (α×Value×Nat)},(lW a es).Sublist es
 |[]=>List.Sublist.refl _
 |x::r=>by
  by_cases j:a=x.1
  .simp[lW,j]
  .simp only[lW,j,if_false];exact zY.cons_cons x
theorem jU.put {h':Heap}{v:Value}(M:jU kv h b es c)(ho:h'[b]? =some (.map ((fF a v c es).map (dE kv)).toArray (jJ a es c))):jU kv h' b (fF a v c es) (jJ a es c):=by
 refine⟨ho,?_,fun x B=> ?_⟩
 .rw[CL];split
  .simpa using M.born
  .rw[List.pairwise_append];refine⟨M.born,by simp,fun y C z G=> ?_⟩;obtain⟨q,r,rfl⟩:=fo.1 C;have:=M.lt q r;simp at G;omega
 .have j:x.2.2∈(fF a v c es).map (·.2.2):=fo.2 ⟨x,B,rfl⟩;rw[CL]at j;unfold jJ;rcases List.mem_append.1 j with j|j
  .obtain⟨q,r,A⟩:=fo.1 j;have:=M.lt q r;split<;>omega
  .split at j
   .cases j
   .rename_i w;simp at j;rw[if_neg w];omega
theorem jU.del {h':Heap}(M:jU kv h b es c)(ho:h'[b]? =some (.map ((lW a es).map (dE kv)).toArray c)):jU kv h' b (lW a es) c:=
 ⟨ho,M.born.sublist (zY.map _),fun x j=>M.lt x (zY.subset j)⟩
theorem zAR (hu:P.underlying u=some (.map kt vt))(K:Keys P kt kv)(M:jU kv h b es c){v:Value}{k y:Operand}(hx:ev er x= .map (some b))(hk:ev er k=kv a)(hy:ev er y=v)(H:∀h',jU kv h' b (fF a v c es) (jJ a es c)->Upd h h' b->Q undef h'):aI P (.mapUpdate u x k y) ty er h Q:=by
 have J:=qy (o':= .map ((fF a v c es).map (dE kv)).toArray (jJ a es c)) M.obj;refine oM rfl (h.setIfInBounds b (.map ((fF a v c es).map (dE kv)).toArray (jJ a es c))) (H _ (M.put J.1) J.2) fun W I=>⟨{W with heap:=W.heap.setIfInBounds b (.map ((fF a v c es).map (dE kv)).toArray (jJ a es c))},?_,by rw[I],rfl,rfl,rfl⟩
 have A:=M.obj;rw[<-I]at A;have c1:=K.check a false W;have q:=K.find a es W;have C:=bR (P:=P) A;have w:=eF (P:=P) (.map ((fF a v c es).map (dE kv)).toArray (jJ a es c)) A;cases hf:ku a es 0 with
 |none=>
  obtain⟨q1,q2,_⟩:=jY hf;have B:((es.map (dE kv)).toArray.push {key:=kv a,val:=v,born:=c})=((fF a v c es).map (dE kv)).toArray:=by simp[q2,dE]
  have e2:jJ a es c=c+1:=by simp[jJ,q1]
  rw[hf]at q;rw[e2]at w ⊢;simp only[execOp,xI,hx,hk,hy,aY,run_underlying hu,aN,C,c1,dG,q,B,w,bE]
 |some r=>
  obtain⟨j,u0⟩:=r;obtain⟨V,x0,G,N,O,h4,R,U,_⟩:=jT hf;have G:j=V:=by omega
  subst G;have B:((es.map (dE kv)).toArray.modify j fun e=>{e with key:=kv a,val:=v})=((fF a v c es).map (dE kv)).toArray:=by
   apply bz.1;rw[gN,U];apply List.ext_getElem?;intro i;simp only[dG,List.getElem?_modify,List.getElem?_map,Option.map_map];split
   .cases es[i]? <;>simp[dE]
   .cases es[i]? <;>simp[dE]
  have e2:jJ a es c=c:=by simp[jJ,R]
  have L:((es.map (dE kv)).toArray[j]?.map (·.key)).getD (kv a)=kv a:=by simp[N,dE,O]
  have Z:=K.stays a W;rw[hf]at q;rw[e2]at w ⊢;simp only[execOp,xI,hx,hk,hy,aY,run_underlying hu,aN,C,c1,dG,q,L,Z,B,w,bE]
theorem zBF (hu:P.underlying u=some (.map kt vt))(K:Keys P kt kv)(M:jU kv h b es c){t2:TypeId}{k:Operand}(hx:ev er x= .map (some b))(hk:ev er k=kv a)(H:∀h',jU kv h' b (lW a es) c->Upd h h' b->Q (.tuple #[]) h'):aI P (.call ⟨.builtin .delete,#[x,k],#[u,t2]⟩) ty er h Q:=by
 have L:=qy (o':= .map ((lW a es).map (dE kv)).toArray c) M.obj;refine az rfl (.tuple #[]) (h.setIfInBounds b (.map ((lW a es).map (dE kv)).toArray c)) (H _ (M.del L.1) L.2) fun W J=>⟨{W with heap:=W.heap.setIfInBounds b (.map ((lW a es).map (dE kv)).toArray c)},?_,by rw[J],rfl,rfl,rfl⟩
 have B:=M.obj;rw[<-J]at B;have c1:=fun O=>K.check a O W
 have A:=K.find a es W;have G:=bR (P:=P) B;have w:=eF (P:=P) (.map ((lW a es).map (dE kv)).toArray c) B;have q: #[x,k].map (ev er)= #[.map (some b),kv a]:=by simp[hx,hk]
 have C:(sS #[u,t2] ty #[.map (some b),kv a]).run P W= .ok (.tuple #[]) {W with heap:=W.heap.setIfInBounds b (.map ((lW a es).map (dE kv)).toArray c)}:=by
  cases hf:ku a es 0 with
  |none=>
   obtain⟨_,_,q3⟩:=jY hf;rw[hf]at A;rw[q3]at w ⊢;simp[sS,run_underlying hu,G,c1,A,w]
  |some r=>
   obtain⟨j,u0⟩:=r;obtain⟨U,x0,I,V,Z,h4,h5,_,R⟩:=jT hf;have I:j=U:=by omega
   subst I;have N:((es.map (dE kv)).toArray.eraseIdxIfInBounds j)=((lW a es).map (dE kv)).toArray:=by
    apply bz.1;rw[pG,R];exact DW es j
   rw[hf]at A;rw[<-N]at w ⊢;simp only[List.eraseIdxIfInBounds_toArray]at w ⊢;simp[sS,run_underlying hu,G,c1,A,w]
 simp only[execOp,resolve,invoke,builtin,aY,bE,aN,q,C]
theorem zAU {z:Value}(hu:P.underlying u=some (.map kt vt))(hz:dJ P vt=some z)(K:Keys P kt kv)(M:jU kv h b es c){ok:Bool}{k:Operand}(hx:ev er x= .map (some b))(hk:ev er k=kv a)(H:Q (if ok then .tuple #[(fZ a es).getD z,.bool (fZ a es).isSome]else(fZ a es).getD z) h):aI P (.lookup u x k ok) ty er h Q:=by
 refine aK rfl _ H fun W I=> ?_
 have A:=M.obj;rw[<-I]at A;have c1:=fun C=>K.check a C W
 have q:=K.find a es W;have B:=bR (P:=P) A;have w:(zeroValue vt).run P W= .ok z W:=by
  unfold dJ at hz;cases hj:P.info? vt with
  |none=>simp[hj]at hz
  |some i=>simp only[hj,kE]at hz;simp[zeroValue,typeInfo,hj,hz]
 cases hf:ku a es 0 with
 |none=>
  obtain⟨q1,_,_⟩:=jY hf;rw[hf]at q;rw[q1];cases ok<;>simp[execOp,xU,hx,hk,run_underlying hu,B,c1,q,w,cZ]
 |some r=>
  obtain⟨j,V⟩:=r;obtain⟨U,Z,J,L,N,O,G,_,R⟩:=jT hf;rw[hf]at q;rw[G];cases ok<;>simp[execOp,xU,hx,hk,run_underlying hu,B,c1,q,cZ]
end
end maps
end Go.Eng
namespace Go.Proofs.YtejmkibjpaoahaaGreatDoor
open Go Go.Proofs Go.Eng Go.Run Tab
section
variable {K:Value->Eng.Heap->Prop}{P:Program}{a:Option Addr}{e:Env}{h:Eng.Heap}{ty:TypeId}{x:Operand}
def YtejmkibjpaoahaaGreatDoorCopyFs121:=(aD (aD @agg127 (aD @fo129_0 @inf127)) (aD @sz127 (aD @Tryz.underlying127 @Tryz.underlying253)))
theorem noEsc (x:Value)(w:World):(callFunc 175 #[x]).run bI w= .ok (.value x) w:=by
 rw[run_callFunc_extern (fn:=Tryz.f175) (by kernel_rfl) (by kernel_rfl) (by kernel_rfl) (by kernel_rfl) (e:=Extern.AbiNoEscape.same) (by kernel_rfl)];rfl
theorem ptrNil {u yt el:TypeId}(hu:P.underlying u=some (.pointer el)){y:Operand}(hx:ev e x= .pointer a)(hy:ev e y= .pointer none)(H:K (.bool a.isNone) h):aI P (.binOp .eql u x y yt) ty e h K:=
 aK rfl _ H fun w _=>by simp[execOp,hx,hy,eqGuard,Go.binOp,Xr hu]
theorem ptrSame {u yt el:TypeId}{j:TypeInfo}(hu:P.underlying u=some (.pointer el))(hj:P.info? el=some j){y:Operand}{a:Addr}(hx:ev e x= .pointer (some a))(hy:ev e y= .pointer (some a))(H:K (.bool false) h):aI P (.binOp .neq u x y yt) ty e h K:=
 aK rfl _ H fun w _=>by simp[execOp,hx,hy,eqGuard,Lib.run_neq_ptr_same w a hu hj]
theorem cvW_ptr {u s:Option TypeDesc}{F:Prop}:cvW (.pointer a) u s F h K=F:=by unfold cvW;rfl
theorem lies115:liesAt bI Tryz.prog.depth 129 (2/Tryz.prog.cellsOf 129) 0 129 1=true:=by kernel_rfl
theorem binW_ptr {op:BinOp}{b:Option Addr}{F:Prop}:dF op (.pointer a) (.pointer b) h K F=F:=by unfold dF;rfl
theorem conv_to {s d:TypeId}{a:Addr}(hrun:∀w:World,w.heap=h->(convert s d (.pointer (some a))).run P w= .ok (.pointer (some a)) w)(hx:ev e x= .pointer (some a))(H:K (.pointer (some a)) h):aI P (.convert s d x) ty e h K:=
 aK rfl _ H fun w j=>by
  simp only[execOp,hx,aY,hrun w j,aN];rfl
theorem callN {v:Value}{ats:Array TypeId}(hx:ev e x=v)(H:K v h):aI bI (.call ⟨.value (.func 175),#[x],ats⟩) ty e h K:=
 aK rfl v H fun w q=>by
  have j:ev e (Operand.func 175)=Value.func (.func 175) #[] #[]:=rfl;simp only[execOp,resolve,j,Deferred.ofValue,invoke,aY,bE,aN];have:=noEsc v w;simpa[hx]using this
theorem copyQ:Xm bI 121 129:=by
 intro h r c d q G;have I:=bA q;have J:¬(r=h.size):=by omega
 refine kJ Tryz.func121 rfl bod121 ?_;simp only[Tryz.ntmps121,Tryz.results121,coreS,ny,pz,Nat.reduceAdd,Nat.reduceSub,Nat.reduceMul,Nat.reduceLeDiff,Int.reduceEq,Nat.reduceEqDiff,YtejmkibjpaoahaaGreatDoorCopyFs121];refine zBy (dI _ _ _ _ _ ?_);rcases G with rfl|rfl
 .simp only[q,splice,coreS,ny,pz,Nat.reduceAdd,Nat.reduceSub,Nat.reduceMul,Nat.reduceLeDiff,Int.reduceEq,Nat.reduceEqDiff,YtejmkibjpaoahaaGreatDoorCopyFs121];rw[binW_ptr];refine ptrNil sQ (by rfl) (by rfl) ?_;simp only[WF,coreS,ny,pz,Nat.reduceAdd,Nat.reduceSub,Nat.reduceMul,Nat.reduceLeDiff,Int.reduceEq,Nat.reduceEqDiff,YtejmkibjpaoahaaGreatDoorCopyFs121];refine zB4 (b:=true) rfl ?_;simp only[if_true];refine Ym 3 ?_;simp only[Ty];refine⟨trivial,?_⟩;simp only[coreS,ny,pz,Nat.reduceAdd,Nat.reduceSub,Nat.reduceMul,Nat.reduceLeDiff,Int.reduceEq,Nat.reduceEqDiff,YtejmkibjpaoahaaGreatDoorCopyFs121];rw[cvW_ptr];obtain⟨j,A⟩:=bD.1 inf129;have H:j.size=2:=by have:=sz129;simp[szT,A]at this;exact this
  have B:∀w:World,w.heap=h->w.shape? r=some (129,2):=fun w C=>by unfold World.shape?;rw[C,q];rfl
  refine conv_to (fun w C=>Lib.run_to_unsafe w ⟨r,0,none⟩ sQ MC A (by omega) (B w C) (Nat.zero_lt_succ 1)) (by rfl) ?_;refine callN (v:= .pointer (some ⟨r,0,none⟩)) (by rfl) ?_;rw[cvW_ptr];refine conv_to (fun w C=>Lib.run_from_unsafe w ⟨r,0,none⟩ MC sQ A (B w C) lies115) (by rfl) ?_;simp only[q,splice,coreS,U1,splice,ny,pz,Nat.reduceAdd,Nat.reduceSub,Nat.reduceMul,Nat.reduceLeDiff,Int.reduceEq,Nat.reduceEqDiff,YtejmkibjpaoahaaGreatDoorCopyFs121];rfl
 .simp only[q,splice,coreS,ny,pz,Nat.reduceAdd,Nat.reduceSub,Nat.reduceMul,Nat.reduceLeDiff,Int.reduceEq,Nat.reduceEqDiff,YtejmkibjpaoahaaGreatDoorCopyFs121];rw[binW_ptr];refine ptrNil sQ (by rfl) (by rfl) ?_;simp only[WF,coreS,ny,pz,Nat.reduceAdd,Nat.reduceSub,Nat.reduceMul,Nat.reduceLeDiff,Int.reduceEq,Nat.reduceEqDiff,YtejmkibjpaoahaaGreatDoorCopyFs121];refine zB4 (b:=false) rfl ?_;simp only[Bool.false_eq_true,if_false];refine dI _ _ _ _ _ ?_;simp only[q,splice,coreS,ny,pz,Nat.reduceAdd,Nat.reduceSub,Nat.reduceMul,Nat.reduceLeDiff,Int.reduceEq,Nat.reduceEqDiff,YtejmkibjpaoahaaGreatDoorCopyFs121];rw[binW_ptr];obtain⟨j,A⟩:=bD.1 inf129;refine ptrSame sQ A (by rfl) (by rfl) ?_;simp only[q,splice,coreS,ny,pz,Nat.reduceAdd,Nat.reduceSub,Nat.reduceMul,Nat.reduceLeDiff,Int.reduceEq,Nat.reduceEqDiff,YtejmkibjpaoahaaGreatDoorCopyFs121];apply Array.ext_getElem?;intro j;rw[nY];split
  .rename_i A;subst A;exact q
  .rfl
end
end Go.Proofs.YtejmkibjpaoahaaGreatDoor
