/- Lemmas. No condition. -/
import Derived.Test.YtejmkibjpaoahaaGreatDoorRunU
import Derived.KernelRfl
import Derived.Test.YtejmkibjpaoahaaGreatDoorProg
import Derived.Laws.CopyRow
import Derived.Laws.Externs
import Derived.Lib.Builder
set_option linter.unusedSimpArgs false
set_option linter.unusedVariables false
set_option linter.defProp false
section
namespace Go.Proofs.YtejmkibjpaoahaaGreatDoor.Tab
open Go Go.Proofs Go.Eng
theorem sz127:szT Tryz.prog 127=1:=by kernel_rfl
theorem inf127:(Tryz.prog.info? 127).isSome=true:=by kernel_rfl
theorem agg127:zF Tryz.prog 127=some false:=by kernel_rfl
theorem sz129:szT Tryz.prog 129=2:=by kernel_rfl
theorem inf129:(Tryz.prog.info? 129).isSome=true:=by kernel_rfl
theorem fo129_0:jG Tryz.prog 129 0=some 0:=by kernel_rfl
theorem bod121:qA Tryz.prog 121=true:=by kernel_rfl
end Go.Proofs.YtejmkibjpaoahaaGreatDoor.Tab
end
section
set_option linter.unusedVariables false
set_option linter.unusedSimpArgs false
namespace Go.Eng
open Go
theorem Upd.trans {a b c:Heap}{g:Nat}(x:Upd a b g)(y:Upd b c g):Upd a c g:=⟨y.size.trans x.size,fun i hi=>(y.old i hi).trans (x.old i hi)⟩
theorem zBY {n:Int}:InK .u64 n=(0<=n/\n<=18446744073709551615):=by simp[InK,IntKind.min,IntKind.max,IntKind.signed,IntKind.bits]
theorem zBh {n:Int}:InK .u32 n=(0<=n/\n<=4294967295):=by simp[InK,IntKind.min,IntKind.max,IntKind.signed,IntKind.bits]
theorem Upd.refl (a:Heap)(g:Nat):Upd a a g:=⟨rfl,fun _ _=>rfl⟩
section apps
variable {P:Program}{h0:Nat}{h:Heap}{er:Env}{ty:TypeId}
section
variable {K:Value->Heap->Prop}{a a' b:Option Addr}{c:Nat}{ct e2 el:TypeId}{g:Nat}{h':Heap}{len m n:Nat}{t t2:TypeId}{v:Value}{x:Operand}{xs:List Int}{y:Operand}{ys:List Int}{z:Int}
structure eG (h0:Nat)(h:Heap)(el:TypeId)(a:Option Addr)(len cap:Nat)(xs:List Int):Prop where
 ln:len=xs.length
 ok:(a=none/\len=0/\cap=0)\/∃g cur,a=some ⟨g,0,none⟩/\h0<=g/\h[g]? =some (.cells cur el (0,0))/\cap<=cur.size/\len<=cap/\cur.toList.take len=ints xs
theorem eG.nil (h0:Nat)(h:Heap)(el:TypeId):eG h0 h el none 0 0 []:=⟨rfl,.inl ⟨rfl,rfl,rfl⟩⟩
theorem eG.ints {cap:Nat}(O:eG h0 h el a len cap xs):eu h a len xs:=by
 refine⟨O.ln,?_⟩;rcases O.ok with⟨rfl,h1,_⟩|⟨g,cur,rfl,h1,h2,h3,h4,h5⟩
 .left;have:=O.ln;have:xs=[]:=List.length_eq_zero_iff.1 (by omega);simp[this,Eng.ints]
 .right;have hl:=O.ln;refine⟨g,0,cur,el,(0,0),rfl,h2,by rw[aR];omega,by rw[aR,List.drop_zero,<-hl];exact h5⟩
theorem eG.cap {cap:Nat}(O:eG h0 h el a len cap xs):len<=cap:=by
 rcases O.ok with⟨_,h1,h2⟩|⟨g,cur,_,_,_,_,h4,_⟩<;>omega
theorem eG.keep {cap:Nat}(O:eG h0 h el a len cap xs)(hk:∀p,a=some p->h'[p.block]? =h[p.block]?):eG h0 h' el a len cap xs:=by
 refine⟨O.ln,?_⟩;rcases O.ok with h1|⟨g,cur,rfl,h1,h2,h3⟩
 .exact .inl h1
 .exact .inr ⟨g,cur,rfl,h1,(hk _ rfl).trans h2,h3⟩
theorem eG.lt {cap:Nat}(O:eG h0 h el a len cap xs){p:Addr}(hp:a=some p):p.block<h.size/\h0<=p.block:=by
 rcases O.ok with⟨h1,_⟩|⟨g,cur,h1,h2,h3,h4⟩
 .rw[h1]at hp;cases hp
 .rw[h1]at hp;cases hp;exact⟨bA h3,h2⟩
theorem eG.ext {cap:Nat}(O:eG h0 h el a len cap xs)(x:Ext h h'):eG h0 h' el a len cap xs:=O.keep fun p hp=>x.old _ (O.lt hp).1
structure App (h h':Heap)(a a':Option Addr):Prop where
 size:h.size<=h'.size
 old:∀c,c<h.size->(∀p,a=some p->p.block≠c)->h'[c]? =h[c]?
 to:∀p,a'=some p->(∃q,a=some q/\q.block=p.block)\/h.size<=p.block
theorem App.ext {cap:Nat}(A:App h h' a a')(O:eG h0 h el a len cap xs){h1:Heap}(x:Ext h1 h)(hl:h1.size<=h0):Ext h1 h':=
 ⟨Nat.le_trans x.size A.size,fun c hc=>(A.old c (Nat.lt_of_lt_of_le hc x.size) fun p hp heq=>by have:=(O.lt hp).2;omega).trans (x.old c hc)⟩
theorem GH {w:World}{k:Nat}(H:eu w.heap b m ys)(hk:k<=m):(Builtin.firstCells 1 k (.slice b m c)).run P w= .ok ((Eng.ints ys).take k).toArray w:=by
 cases b with
 |none=>
  rcases H.row with h1|⟨g,off,cur,ct,fr,h1,_⟩
  .have:ys=[]:=by simpa[Eng.ints]using h1
   have hl:=H.len;rw[this]at hl;obtain rfl:k=0:=by simp at hl;omega
   simp[Builtin.firstCells]
  .cases h1
 |some a=>
  rcases H.row with h1|⟨g,off,cur,ct,fr,h1,h2,h3,h4⟩
  .have hy:ys=[]:=by simpa[Eng.ints]using h1
   have hl:=H.len;rw[hy]at hl;obtain rfl:k=0:=by simp at hl;omega
   have:=run_firstCells_some (P:=P) w 1 0 a m c [] (by simp) (by simp);simpa using this
  .cases h1;have hl:=H.len;refine run_firstCells_some w 1 k ⟨g,off,none⟩ m c _ (by rw[List.length_take,aR];omega) fun j u hu=> ?_
   rw[<-h4,List.getElem?_take]at hu;split at hu
   .rw[List.getElem?_take]at hu;split at hu
    .rw[List.getElem?_drop]at hu;exact Go.Run.vF h2 (by simpa using hu)
    .cases hu
   .cases hu
theorem Gl {ats:Array TypeId}(h1:ats[1]? =some t2)(hu:P.underlying t2=some (.slice e2))(H:eu h b m ys):Go.Run.Src P ats h 1 m (.slice b m c) (Eng.ints ys):=by
 have hl:=H.len;refine⟨⟨t2,_,h1,hu,.inl ⟨e2,rfl⟩⟩,fun w _=>by simp[Builtin.lenOf],fun w hw=> ?_,fun _ n hn w hw=> ?_⟩
 .subst hw;have:=GH (P:=P) (c:=c) H (Nat.le_refl m);rwa[List.take_of_length_le (by rw[aR];omega)]at this
 .subst hw;have:=GH (P:=P) (c:=c) H hn;rwa[Nat.mul_one]
theorem Jn {i:TypeInfo}(hu:P.underlying t=some (.slice el))(hu2:P.underlying t2=some (.slice e2))(hi:P.info? el=some i)(hsz:i.size=1)(hby:i.bytes<=8)(hz:i.zero=some (.int .i64 z)){cap:Nat}(hx:ev er x= .slice a len cap)(hy:ev er y= .slice b m c)(O:eG h0 h el a len cap xs)(h0h:h0<=h.size)(I:eu h b m ys)(hb:len+m<=100000)(H:∀a' cap' h',eG h0 h' el a' (len+m) cap' (xs++ys)->App h h' a a'->K (.slice a' (len+m) cap') h'):aI P (.call ⟨.builtin .append,#[x,y],#[t,t2]⟩) ty er h K:=by
 unfold aI;refine And.intro rfl fun w hw=> ?_
 subst hw;have hlen:(xs++ys).length=len+m:=by rw[List.length_append,<-O.ln,<-I.len]
 have hs:=Gl (P:=P) (ats:= #[t,t2]) (c:=c) rfl hu2 I;have hargs: #[x,y].map (ev er)= #[.slice a len cap,.slice b m c]:=by simp[hx,hy]
 have key:∀v w',(Builtin.append_ #[t,t2] ty #[.slice a len cap,.slice b m c]).run P w= .ok v w'->Rest w w'->K v w'.heap->
  dQ P w K ((execOp (ev er) {dst:=none,op:= .call ⟨.builtin .append,#[x,y],#[t,t2]⟩,type:=ty,pos:= "",after:= #[],guard:=none}).run P w):=by
  intro v w' h1 h2 h3;have:(execOp (ev er) {dst:=none,op:= .call ⟨.builtin .append,#[x,y],#[t,t2]⟩,type:=ty,pos:= "",after:= #[],guard:=none}).run P w= .ok (.value v) w':=by
   simp only[execOp,resolve,invoke,builtin,Sem.run_bind,Sem.run_pure,Result.andThen_ok,hargs,h1]
  rw[this];exact⟨h3,h2⟩
 have grow:cap<len+m->dQ P w K ((execOp (ev er) {dst:=none,op:= .call ⟨.builtin .append,#[x,y],#[t,t2]⟩,type:=ty,pos:= "",after:= #[],guard:=none}).run P w):=by
  intro hgr;have g1:=Go.Run.uy (P:=P) (ty:=ty) (ats:= #[t,t2]) (z:= .int .i64 z) (sLen:=len) (sCap:=cap) (b:=a) (olds:=Eng.ints xs) rfl hu hi hz w (by rw[hsz];exact hs)
   (fun w' hw'=>by
    have hI:=O.ints;rw[<-hw']at hI;have:=GH (P:=P) (c:=cap) hI (Nat.le_refl len);rw[List.take_of_length_le (by rw[aR,<-O.ln];omega)]at this;rw[hsz];exact this) hgr (by have:(len+m)*i.bytes<=100000*8:=Nat.mul_le_mul hb hby
                                                                                                                                                                        omega) (by omega)
  refine key _ _ g1 ⟨rfl,rfl,rfl⟩ (H _ _ _ ⟨hlen.symm,.inr ⟨w.heap.size,_,rfl,h0h,jD,?_,grownCap_ge w (len+m) cap el,?_⟩⟩ ⟨by simp,fun c hc _=> ?_,fun p hp=> ?_⟩)
  .have:=grownCap_ge w (len+m) cap el;have hzl:(Builtin.zeroCells (Value.int .i64 z).cells (grownCap w (len+m) cap el-(len+m))).size=grownCap w (len+m) cap el-(len+m):=by
    simp[Builtin.zeroCells,Value.cells]
   simp only[List.size_toArray,List.length_append,aR,Array.length_toList,hzl,<-O.ln,<-I.len];omega
  .rw[List.toList_toArray,List.append_assoc,<-List.append_assoc,List.take_append_of_le_length]
   .rw[List.take_of_length_le]
    .simp[Eng.ints]
    .rw[List.length_append,aR,aR,<-O.ln,<-I.len];omega
   .rw[List.length_append,aR,aR,<-O.ln,<-I.len];omega
  .show(w.heap.push _)[c]? =_;rw[uo,if_neg (by omega)]
  .cases hp;exact .inr (Nat.le_refl _)
 rcases O.ok with⟨rfl,rfl,rfl⟩|⟨g,cur,rfl,q1,q2,q3,q4,q5⟩
 .by_cases hm:m=0
  .subst hm;have hy0:ys=[]:=List.length_eq_zero_iff.1 I.len.symm;have hx0:xs=[]:=List.length_eq_zero_iff.1 O.ln.symm;have g1:=Go.Run.zZ (P:=P) (ty:=ty) (ats:= #[t,t2]) rfl hu hi w (x:= .slice b 0 c) (news:=Eng.ints ys) (by rw[hsz];exact hs);exact key _ _ g1 (Rest.refl w) (H none 0 w.heap ⟨by rw[hx0,hy0];rfl,.inl ⟨rfl,rfl,rfl⟩⟩ ⟨Nat.le_refl _,fun _ _ _=>rfl,fun p hp=>by cases hp⟩)
  .exact grow (by omega)
 .by_cases hr:len+m<=cap
  .have g1:=Go.Run.oq (P:=P) (ty:=ty) (ats:= #[t,t2]) (sLen:=len) (sCap:=cap) (off:=0) rfl hu hi w (by rw[hsz];exact hs) q2 (fun u hu=>by
    simp only[Eng.ints,List.mem_map]at hu;obtain⟨_,_,rfl⟩:=hu;rfl) hr (by rw[hsz,aR,<-I.len];omega)
   have hheap:(w.setRow g (splice cur.toList (0+len*i.size) (Eng.ints ys)).toArray).heap[g]? =some (.cells (splice cur.toList (0+len*i.size) (Eng.ints ys)).toArray el (0,0)):=by
    have hlt:=bA q2;have hv:=(Array.getElem?_eq_some_iff.1 q2).2;simp[World.setRow,Array.getElem_modify,hlt,hv]
   refine key _ _ g1 ⟨rfl,rfl,rfl⟩ (H _ _ _ ⟨hlen.symm,.inr ⟨g,_,rfl,q1,hheap,?_,hr,?_⟩⟩ ⟨by simp[World.setRow],fun c hc hne=> ?_,fun p hp=> .inl ⟨p,hp,rfl⟩⟩)
   .simp[splice,hsz,aR,<-I.len];omega
   .rw[List.toList_toArray,hsz,Nat.zero_add,Nat.mul_one,splice,q5];rw[List.take_append_of_le_length (by rw[List.length_append,aR,aR,<-O.ln,<-I.len];omega),List.take_of_length_le (by rw[List.length_append,aR,aR,<-O.ln,<-I.len];omega)];simp[Eng.ints]
   .have:g≠c:=hne _ rfl;simp[World.setRow,Array.getElem?_modify,this]
  .exact grow (by omega)
theorem WW (hu:P.underlying t=some (.slice el))(hu2:P.underlying t2=some (.slice e2))(hi:(P.info? el).isSome=true)(hsz:szT P el=1)(hby:iA P el<=8)(hz:dJ P el=some (.int .i64 z)){cap:Nat}(hx:ev er x= .slice a len cap)(hy:ev er y= .slice b m c)(O:eG h0 h el a len cap xs)(h0h:h0<=h.size)(I:eu h b m ys)(hb:len+m<=100000)(H:∀a' cap' h',eG h0 h' el a' (len+m) cap' (xs++ys)->App h h' a a'->K (.slice a' (len+m) cap') h'):aI P (.call ⟨.builtin .append,#[x,y],#[t,t2]⟩) ty er h K:=by
 obtain⟨i,hi⟩:=Option.isSome_iff_exists.1 hi;refine Jn hu hu2 hi (by simpa[szT,hi]using hsz) (by simpa[iA,hi]using hby) (z:=z) (by simpa[dJ,hi]using hz) hx hy O h0h I hb H
def GM (m:Nat)(h':Heap)(el:TypeId)(v:Value)(xs:List Int):Prop:=∃a cap,v= .slice a xs.length cap/\eG m h' el a xs.length cap xs
theorem App.upd {h:Heap}{cap:Nat}{o:Obj}(A:App h h' a a')(O:eG m h el a len cap xs)(hc:h[c]? =some o)(hm:c<m):h'[c]? =some o:=
 (A.old c (bA hc) fun p hp=>by have:=(O.lt hp).2;omega).trans hc
theorem App.extN {h h1:Heap}{cap:Nat}(A:App h h' a a')(O:eG m h el a len cap xs)(x:Ext h1 h)(hm:h1.size<=m):Ext h1 h':=
 ⟨Nat.le_trans x.size A.size,fun c hc=>(A.old c (Nat.lt_of_lt_of_le hc x.size) fun p hp=>by have:=(O.lt hp).2;omega).trans (x.old c hc)⟩
theorem eG.upd {cap b:Nat}{h:Heap}(O:eG m h el a len cap xs)(u:Upd h h' b)(hb:b<m):eG m h' el a len cap xs:=
 O.keep fun p hp=>u.old _ (by have:=(O.lt hp).2;omega)
theorem eG.mono {cap m':Nat}{h:Heap}(O:eG m h el a len cap xs)(hm:m'<=m):eG m' h el a len cap xs:=by
 refine⟨O.ln,?_⟩;rcases O.ok with h1|⟨g,cur,h1,h2,h3⟩
 .exact .inl h1
 .exact .inr ⟨g,cur,h1,by omega,h3⟩
theorem GM.mono {m':Nat}(N:GM m h' el v xs)(hm:m'<=m):GM m' h' el v xs:=by
 obtain⟨a,cap,h1,h2⟩:=N;exact⟨a,cap,h1,h2.mono hm⟩
theorem GM.upd {b:Nat}{h:Heap}(N:GM m h el v xs)(u:Upd h h' b)(hb:b<m):GM m h' el v xs:=by
 obtain⟨a,cap,h1,h2⟩:=N;exact⟨a,cap,h1,h2.upd u hb⟩
theorem GM.ext {h:Heap}(N:GM m h el v xs)(x:Ext h h'):GM m h' el v xs:=by
 obtain⟨a,cap,h1,h2⟩:=N;exact⟨a,cap,h1,h2.ext x⟩
theorem setRow_heap {w:World}{cur:Array Value}{fr:Nat×Nat}(q:w.heap[g]? =some (.cells cur ct fr))(l:List Value):(w.setRow g l.toArray).heap[g]? =some (.cells l.toArray ct fr)/\Upd w.heap (w.setRow g l.toArray).heap g:=by
 have hlt:=bA q;have hv:=(Array.getElem?_eq_some_iff.1 q).2;refine⟨by simp[World.setRow,Array.getElem_modify,hlt,hv],by simp[World.setRow],fun b hb=> ?_⟩;simp[World.setRow,Array.getElem?_modify,Ne.symm hb]
theorem Xl (hu:P.underlying t=some (.slice el))(hz:dJ P el=some (.int .i64 z)){off:Nat}{cur:List Value}(hx:ev er x= .slice (some ⟨g,off,none⟩) n c)(hb:h[g]? =some (.cells cur.toArray ct (0,0)))(hl:off+n<=cur.length)(H:∀h',h'[g]? =some (.cells (splice cur off (List.replicate n (.int .i64 z))).toArray ct (0,0))->Upd h h' g->K (.tuple #[]) h'):aI P (.call ⟨.builtin .clear,#[x],#[t]⟩) ty er h K:=by
 unfold aI;refine And.intro rfl fun w hw=> ?_
 subst hw;have hi:∃i,P.info? el=some i/\i.zero=some (.int .i64 z):=by
  unfold dJ at hz;cases hq:P.info? el with
  |none=>simp[hq]at hz
  |some i=>exact⟨i,rfl,by simpa[hq]using hz⟩
 obtain⟨i,hi,hz⟩:=hi;have key:∀w',(Builtin.clear_ #[t] ty #[.slice (some ⟨g,off,none⟩) n c]).run P w= .ok (.tuple #[]) w'->Rest w w'->K (.tuple #[]) w'.heap->
  dQ P w K ((execOp (ev er) {dst:=none,op:= .call ⟨.builtin .clear,#[x],#[t]⟩,type:=ty,pos:= "",after:= #[],guard:=none}).run P w):=by
  intro w' h1 h2 h3;have:(execOp (ev er) {dst:=none,op:= .call ⟨.builtin .clear,#[x],#[t]⟩,type:=ty,pos:= "",after:= #[],guard:=none}).run P w= .ok (.value (.tuple #[])) w':=by
   have hargs: #[x].map (ev er)= #[.slice (some ⟨g,off,none⟩) n c]:=by simp[hx]
   simp only[execOp,resolve,invoke,builtin,Sem.run_bind,Sem.run_pure,Result.andThen_ok,hargs,h1]
  rw[this];exact⟨h3,h2⟩
 cases n with
 |zero=>
  refine key w (by simp[Builtin.clear_,run_underlying hu]) (Rest.refl w) ?_;refine H _ ?_ ⟨rfl,fun _ _=>rfl⟩;rw[hb];simp[splice]
 |succ n=>
  have hst:=run_storeCells_at P g off ct (List.replicate (n+1) (Value.int .i64 z)) 0 cur.toArray w hb (by simpa using hl) (fun x hx=>by rw[List.eq_of_mem_replicate hx];rfl);simp only[Nat.add_zero,List.length_replicate]at hst;have e3:(Builtin.zeroCells (Value.int .i64 z).cells (n+1)).toList=List.replicate (n+1) (Value.int .i64 z):=by
   unfold Builtin.zeroCells;rw[pW];simp[Value.cells]
  refine key (w.setRow g (splice cur off (List.replicate (n+1) (.int .i64 z))).toArray) ?_ ⟨rfl,rfl,rfl⟩ ?_
  rotate_left
  .have e4:cur.toArray.toList.take off++List.replicate (n+1) (Value.int .i64 z)++cur.toArray.toList.drop (off+(n+1))=splice cur off (List.replicate (n+1) (.int .i64 z)):=by simp[splice]
   exact H (w.setRow g (splice cur off (List.replicate (n+1) (.int .i64 z))).toArray).heap (setRow_heap hb _).1 (setRow_heap hb _).2
  .have e4:cur.toArray.toList.take off++List.replicate (n+1) (Value.int .i64 z)++cur.toArray.toList.drop (off+(n+1))=splice cur off (List.replicate (n+1) (.int .i64 z)):=by simp[splice]
   rw[e4]at hst;simp only[Builtin.clear_,Sem.run_bind,run_underlying hu];have hzv:(zeroValue el).run P w= .ok (.int .i64 z) w:=by simp[zeroValue,typeInfo,hi,hz]
   simp[run_underlying hu,hzv,e3,hst]
theorem Y9 (hu:P.underlying t=some (.slice el))(hu2:P.underlying t2=some (.slice e2))(hi:(P.info? el).isSome=true)(hsz:szT P el=1){off c2:Nat}{cur:List Value}(hx:ev er x= .slice (some ⟨g,off,none⟩) n c)(hy:ev er y= .slice b m c2)(hb:h[g]? =some (.cells cur.toArray ct (0,0)))(hl:off+n<=cur.length)(I:eu h b m ys)(H:∀h',h'[g]? =some (.cells (splice cur off (ints (ys.take n))).toArray ct (0,0))->Upd h h' g->K (.int .i64 (min m n:Nat)) h'):aI P (.call ⟨.builtin .copy,#[x,y],#[t,t2]⟩) ty er h K:=by
 unfold aI;refine And.intro rfl fun w hw=> ?_
 subst hw;obtain⟨i,hi⟩:=Option.isSome_iff_exists.1 hi;have hsz:i.size=1:=by simpa[szT,hi]using hsz
 have hml:=I.len;have hf:=GH (P:=P) (w:=w) (c:=c2) (k:=min m n) I (Nat.min_le_left _ _);have et:(ints ys).take (min m n)=ints (ys.take n):=by
  simp only[ints,List.map_take];rw[List.take_eq_take_iff];simp;omega
 rw[et]at hf;have hlen:(ints (ys.take n)).length=min m n:=by rw[aR,List.length_take];omega
 have hst:=run_storeCells_at P g off ct (ints (ys.take n)) 0 cur.toArray w hb (by rw[hlen];simp;omega) (fun x hx=>by simp only[ints,List.mem_map]at hx;obtain⟨_,_,rfl⟩:=hx;rfl);simp only[Nat.add_zero]at hst;have e4:cur.toArray.toList.take off++ints (ys.take n)++cur.toArray.toList.drop (off+(ints (ys.take n)).length)=splice cur off (ints (ys.take n)):=by simp[splice]
 rw[e4]at hst;have h1:(Builtin.copy_ #[t,t2] ty #[.slice (some ⟨g,off,none⟩) n c,.slice b m c2]).run P w= .ok (.int .i64 (min m n:Nat)) (w.setRow g (splice cur off (ints (ys.take n))).toArray):=by
  have e5:Nat.min m n=min m n:=rfl;simp only[Builtin.copy_,Sem.run_bind,run_underlying hu,sizeOf,typeInfo];simp[run_underlying hu,hi,hsz,Builtin.lenOf,e5,hf,hst,goInt]
 have hargs: #[x,y].map (ev er)= #[.slice (some ⟨g,off,none⟩) n c,.slice b m c2]:=by simp[hx,hy]
 have:(execOp (ev er) {dst:=none,op:= .call ⟨.builtin .copy,#[x,y],#[t,t2]⟩,type:=ty,pos:= "",after:= #[],guard:=none}).run P w= .ok (.value (.int .i64 (min m n:Nat))) (w.setRow g (splice cur off (ints (ys.take n))).toArray):=by
  simp only[execOp,resolve,invoke,builtin,Sem.run_bind,Sem.run_pure,Result.andThen_ok,hargs,h1]
 rw[this];exact⟨H _ (setRow_heap hb _).1 (setRow_heap hb _).2,rfl,rfl,rfl⟩
theorem eG.block {cap:Nat}{h:Heap}(O:eG m h el a len cap xs)(hn:0<len):∃g tl,a=some ⟨g,0,none⟩/\m<=g/\h[g]? =some (.cells (Eng.ints xs++tl).toArray el (0,0))/\cap<=len+tl.length/\len<=cap/\len=xs.length:=by
 rcases O.ok with⟨_,h1,_⟩|⟨g,cur,rfl,h1,h2,h3,h4,h5⟩
 .omega
 .refine⟨g,cur.toList.drop len,rfl,h1,?_,by simp;omega,h4,O.ln⟩;rw[h2,<-h5,List.take_append_drop]
theorem eG.of_block {cap:Nat}{tl:List Value}{h:Heap}(hg:m<=g)(hb:h[g]? =some (.cells (Eng.ints xs++tl).toArray el (0,0)))(hc:cap<=xs.length+tl.length)(hc2:xs.length<=cap):eG m h el (some ⟨g,0,none⟩) xs.length cap xs:=
 ⟨rfl,.inr ⟨g,_,rfl,hg,hb,by simp[aR];omega,hc2,by simp[aR]⟩⟩
theorem zBW {z:Option Value}{pl:Nat->Option (Nat×Nat)}{parts:List (Nat×Value)}{F:Prop}:Ci false z pl parts h K F=F:=by simp only[Ci]
theorem XT {z:List Value}(hu:P.underlying t=some (.array n el))(hi:(P.info? el).isSome=true)(hz:dJ P t=some (.agg z.toArray))(H:K (.agg z.toArray) h):aI P (.build t #[]) ty er h K:=by
 obtain⟨i,hi⟩:=Option.isSome_iff_exists.1 hi;refine aK rfl _ H fun w _=> ?_
 have hz':(zeroValue t).run P w= .ok (.agg z.toArray) w:=by
  unfold dJ at hz;cases hj:P.info? t with
  |none=>simp[hj]at hz
  |some i=>simp only[hj,Option.bind_some]at hz;simp[zeroValue,typeInfo,hj,hz]
 simp only[execOp,Instr.build,Sem.run_bind,hz',Result.andThen_ok,run_underlying hu];simp[sizeOf,typeInfo,hi,Value.cells,Instr.fill]
end
section eqs
open Go.Run
theorem FP {ι:Io}:∀xs:List Int,VL ι (xs.map (T.int .i64)) (Eng.ints xs)
 |[]=>by simp[Eng.ints,VL]
 |x::xs=>by
  have:=FP (ι:=ι) xs;simp only[Eng.ints,List.map_cons,VL,VR]at this ⊢;exact⟨_,_,rfl,rfl,this⟩
theorem EP:∀(xs ys:List Int),xs.length=ys.length->gZ (List.replicate xs.length .i) (xs.map (T.int .i64)) (ys.map (T.int .i64))=some (decide (xs=ys))
 |[],[],_=>rfl
 |x::xs,y::ys,h=>by
  have h1:=EP xs ys (by simpa using h);have hk:Ir .i64 .i64=true:=rfl;simp only[List.length_cons,List.replicate_succ,List.map_cons,gZ,ry,hk];by_cases hxy:x=y
  .have hb:yF x y=true:=by rw[<-za];simpa using hxy
   rw[hb,h1];simp[hxy]
  .have hb:yF x y=false:=by rw[<-za];simpa using hxy
   rw[hb];simp[hxy]
theorem ZT {p:Pr}(ok:Ok P p){u yt:TypeId}{ti:TI}(hti:p.ty u=some ti){a b:T}{v w:Value}{r:Bool}(hv:VR (fun _=>none) a v)(hw:VR (fun _=>none) b w)(he:mG ti a b=some r){op:BinOp}(ho:op= .eql\/op= .neq)
 {x y:Operand} (hx:ev er x=v) (hy:ev er y=w) {K:Value->Heap->Prop} (H:K (.bool (if op= .eql then r else !r)) h):aI P (.binOp op u x y yt) ty er h K:=by
 refine aK rfl _ H fun W hW=> ?_
 obtain⟨h1,⟨c,d,rfl,rfl⟩,hg,_⟩:=jW (ok.tf hti) hv hw he W;have:(do eqGuard op u x y (.agg c) (.agg d);Go.binOp op u (.agg c) (.agg d):Sem Value).run P W= .ok (.bool (if op= .eql then r else !r)) W:=by
  rcases ho with rfl|rfl<;>simp[eqGuard,hg,Go.binOp,h1]
 simp only[execOp,Sem.run_bind,hx,hy]at this ⊢;rw[this];rfl
theorem zBa {p:Pr}(ok:Ok P p){u yt:TypeId}{ti:TI}(hti:p.ty u=some ti){xs ys:List Int}(hl:xs.length=ys.length)(h0:0<xs.length)(hfl:ti.fl=List.replicate xs.length .i)
 {x y:Operand} (hx:ev er x= .agg (Eng.ints xs).toArray) (hy:ev er y= .agg (Eng.ints ys).toArray) {K:Value->Heap->Prop} (H:K (.bool (decide (xs=ys))) h):aI P (.binOp .eql u x y yt) ty er h K:=by
 refine ZT ok hti (a:= .agg (xs.map (T.int .i64))) (b:= .agg (ys.map (T.int .i64))) (r:=decide (xs=ys)) ?_ ?_ ?_ (.inl rfl) hx hy (by simpa using H)
 .simp only[VR];exact⟨_,rfl,by simpa using FP xs⟩
 .simp only[VR];exact⟨_,rfl,by simpa using FP ys⟩
 .have:=EP xs ys hl;unfold mG;rw[hfl];cases hx:xs.length with
  |zero=>omega
  |succ n=>rw[hx]at this;simpa[List.replicate_succ]using this
end eqs
section
variable {a b:Option Addr}{cb:Nat}{el el2:TypeId}{h':Heap}{lb len m mb:Nat}{xs ys:List Int}
theorem XU {n c lo hi:Nat}(I:eu h a n xs)(h1:lo<=hi)(h2:hi<=n)(h3:n<=c):eu h (if(c:Int)=(lo:Int)then a else lg a lo) (hi-lo) ((xs.drop lo).take (hi-lo)):=by
 have hl:=I.len;refine⟨by simp;omega,?_⟩;split
 .rename_i he;have:hi-lo=0:=by omega
  rw[this];exact .inl (by simp[Eng.ints])
 .have:=I.row.sub lo (hi-lo) (by rw[aR];omega);rwa[show((Eng.ints xs).drop lo).take (hi-lo)=Eng.ints ((xs.drop lo).take (hi-lo)) by simp[Eng.ints,List.map_take,List.map_drop]]at this
theorem eG.cut {cap:Nat}(O:eG m h el a len cap xs):eG m h el a len len xs:=by
 refine⟨O.ln,?_⟩;rcases O.ok with⟨h1,h2,h3⟩|⟨g,cur,h1,h2,h3,h4,h5,h6⟩
 .exact .inl ⟨h1,h2,h2⟩
 .exact .inr ⟨g,cur,h1,h2,h3,by omega,Nat.le_refl _,h6⟩
def Apart (a b:Option Addr):Prop:=∀p q,a=some p->b=some q->p.block≠q.block
theorem Apart.zAE:Apart none b:=fun p q hp=>by cases hp
theorem Apart.Xu:Apart a none:=fun p q _ hq=>by cases hq
theorem Apart.symm (H:Apart a b):Apart b a:=fun p q hp hq he=>H q p hq hp he.symm
theorem eG.beside {el:TypeId}{a':Option Addr}{len cap m:Nat}{xs:List Int}{h:Heap}(B:eG mb h el2 b lb cb ys)(A:App h h' a a')(hne:Apart a b):eG mb h' el2 b lb cb ys:=
 B.keep fun q hq=>A.old _ (B.lt hq).1 fun p hp=>hne p q hp hq
theorem Apart.app {a':Option Addr}{h:Heap}(hne:Apart a b)(A:App h h' a a')(B:eG mb h el2 b lb cb ys):Apart a' b:=by
 intro p q hp hq;have:=(B.lt hq).1;rcases A.to p hp with⟨r,hr,he⟩|h1
 .rw[<-he];exact hne r q hr hq
 .omega
theorem eG.apart {cap:Nat}{h:Heap}(O:eG m h el a len cap xs)(B:eG mb h' el2 b lb cb ys)(hm:h.size<=mb):Apart a b:=by
 intro p q hp hq;have:=(O.lt hp).1;have:=(B.lt hq).2;omega
theorem eG.take {cap:Nat}(O:eG m h el a len cap xs){k:Nat}(hk:k<=len):eG m h el a k cap (xs.take k):=by
 refine⟨by have:=O.ln;simp;omega,?_⟩;rcases O.ok with⟨h1,h2,h3⟩|⟨g,cur,h1,h2,h3,h4,h5,h6⟩
 .exact .inl ⟨h1,by omega,h3⟩
 .refine .inr ⟨g,cur,h1,h2,h3,h4,by omega,?_⟩;have:(cur.toList.take len).take k=(Eng.ints xs).take k:=by rw[h6]
  rw[List.take_take,show min k len=k by omega]at this;rw[this];simp[Eng.ints,List.map_take]
theorem Va {t t2 e2:TypeId}(hu:P.underlying t=some (.slice el))(hu2:P.underlying t2=some (.slice e2))(hi:(P.info? el).isSome=true)(hsz:szT P el=1){x y:Operand}{g cap c m0:Nat}{K:Value->Heap->Prop}(hx:ev er x= .slice (some ⟨g,0,none⟩) len cap)(hy:ev er y= .slice b m c)(O:eG m0 h el (some ⟨g,0,none⟩) len cap xs)(I:eu h b m ys)(hr:len+m<=cap)(H:∀h',eG m0 h' el (some ⟨g,0,none⟩) (len+m) cap (xs++ys)->Upd h h' g->K (.slice (some ⟨g,0,none⟩) (len+m) cap) h'):aI P (.call ⟨.builtin .append,#[x,y],#[t,t2]⟩) ty er h K:=by
 obtain⟨i,hi⟩:=Option.isSome_iff_exists.1 hi;have hsz:i.size=1:=by simpa[szT,hi]using hsz
 unfold aI;refine And.intro rfl fun w hw=> ?_
 subst hw;have hlen:(xs++ys).length=len+m:=by rw[List.length_append,<-O.ln,<-I.len]
 have hs:=Gl (P:=P) (ats:= #[t,t2]) (c:=c) rfl hu2 I;have hargs: #[x,y].map (ev er)= #[.slice (some ⟨g,0,none⟩) len cap,.slice b m c]:=by simp[hx,hy]
 rcases O.ok with⟨h1,_⟩|⟨g2,cur,h1,q1,q2,q3,q4,q5⟩
 .cases h1
 cases h1;have g1:=Go.Run.oq (P:=P) (ty:=ty) (ats:= #[t,t2]) (sLen:=len) (sCap:=cap) (off:=0) rfl hu hi w (by rw[hsz];exact hs) q2 (fun u hu=>by
  simp only[Eng.ints,List.mem_map]at hu;obtain⟨_,_,rfl⟩:=hu;rfl) hr (by rw[hsz,Eng.aR,<-I.len];omega)
 have:(execOp (ev er) {dst:=none,op:= .call ⟨.builtin .append,#[x,y],#[t,t2]⟩,type:=ty,pos:= "",after:= #[],guard:=none}).run P w= .ok (.value (.slice (some ⟨g,0,none⟩) (len+m) cap)) (w.setRow g (splice cur.toList (0+len*i.size) (Eng.ints ys)).toArray):=by
  simp only[execOp,resolve,invoke,builtin,Sem.run_bind,Sem.run_pure,Result.andThen_ok,hargs,g1]
 rw[this];refine⟨H _ ⟨hlen.symm,.inr ⟨g,_,rfl,q1,(setRow_heap q2 _).1,?_,hr,?_⟩⟩ (setRow_heap q2 _).2,rfl,rfl,rfl⟩
 .simp[splice,hsz,Eng.aR,<-I.len];omega
 .rw[List.toList_toArray,hsz,Nat.zero_add,Nat.mul_one,splice,q5];rw[List.take_append_of_le_length (by rw[List.length_append,Eng.aR,Eng.aR,<-O.ln,<-I.len];omega),List.take_of_length_le (by rw[List.length_append,Eng.aR,Eng.aR,<-O.ln,<-I.len];omega)];simp[Eng.ints]
theorem eG.tail {cap g off:Nat}{vs:List Value}{cur:List Value}{h:Heap}(O:eG m h el (some ⟨g,0,none⟩) len cap xs)(hb:h[g]? =some (.cells cur.toArray el (0,0)))(hb':h'[g]? =some (.cells (splice cur off vs).toArray el (0,0)))(ho:len<=off)(hl:off+vs.length<=cur.length):eG m h' el (some ⟨g,0,none⟩) len cap xs:=by
 rcases O.ok with⟨h1,_⟩|⟨g2,cur2,h1,q1,q2,q3,q4,q5⟩
 .cases h1
 cases h1;rw[hb]at q2;cases q2;refine⟨O.ln,.inr ⟨g,_,rfl,q1,hb',by simp[splice]at q3 ⊢;omega,q4,?_⟩⟩;rw[<-q5];simp only[splice,List.append_assoc];rw[List.take_append_of_le_length (by rw[List.length_take];omega),List.take_take];congr 1;omega
end
section bools
open Go.Run
section
variable {K:Value->Heap->Prop}{a b:Bool}{u:TypeId}{x y:Operand}{yt:TypeId}
theorem zu {yt:TypeId}(hu:P.underlying u=some .bool)(hx:ev er x= .bool a)(hy:ev er y= .bool b){op:BinOp}(ho:op= .eql\/op= .neq)(w:World):
 (execOp (ev er) {dst:=none,op:= .binOp op u x y yt,type:=ty,pos:= "",after:= #[],guard:=none}).run P w= .ok (.value (.bool (if op= .eql then a==b else !(a==b)))) w:=by
 have h1:=PQ hu a b w;have:(do eqGuard op u x y (.bool a) (.bool b);Go.binOp op u (.bool a) (.bool b):Sem Value).run P w= .ok (.bool (if op= .eql then a==b else !(a==b))) w:=by
  rcases ho with rfl|rfl<;>simp[eqGuard,Go.binOp,h1]
 simp only[execOp,Sem.run_bind,hx,hy]at this ⊢;rw[this];rfl
theorem zB6 (hu:P.underlying u=some .bool)(hx:ev er x= .bool a)(hy:ev er y= .bool b)(H:K (.bool (a==b)) h):aI P (.binOp .eql u x y yt) ty er h K:=
 aK rfl _ H fun w _=>zu hu hx hy (.inl rfl) w
theorem zBT {R:Heap->Heap->Prop}(hS:Sta R)(hu:P.underlying u=some .bool)(hx:ev er x= .bool a)(hy:ev er y= .bool b)(H:K (.bool (a==b)) h):iP P R (.binOp .eql u x y yt) ty er h K:=
 gT hS rfl _ H fun w=>zu hu hx hy (.inl rfl) w
theorem zBf (hu:P.underlying u=some .bool)(hx:ev er x= .bool a)(hy:ev er y= .bool b)(H:K (.bool (!(a==b))) h):aI P (.binOp .neq u x y yt) ty er h K:=
 aK rfl _ H fun w _=>zu hu hx hy (.inr rfl) w
theorem zBj {R:Heap->Heap->Prop}(hS:Sta R)(hu:P.underlying u=some .bool)(hx:ev er x= .bool a)(hy:ev er y= .bool b)(H:K (.bool (!(a==b))) h):iP P R (.binOp .neq u x y yt) ty er h K:=
 gT hS rfl _ H fun w=>zu hu hx hy (.inr rfl) w
end
end bools
end apps
end Go.Eng
end
section
set_option linter.unusedVariables false
set_option linter.unusedSimpArgs false
namespace Go.Eng
open Go
section vrows
variable {P:Program}{h0:Nat}{h:Heap}{er:Env}{ty:TypeId}
section
variable {a b:Option Addr}{c:Nat}{e2 el:TypeId}{h':Heap}{len m s:Nat}{t2:TypeId}{vs:List Value}
structure iV (h0:Nat)(h:Heap)(el:TypeId)(s:Nat)(a:Option Addr)(len cap:Nat)(vs:List Value):Prop where
 ln:vs.length=len*s
 ok:(a=none/\len=0/\cap=0)\/∃g cur,a=some ⟨g,0,none⟩/\h0<=g/\h[g]? =some (.cells cur el (0,0))/\cap*s<=cur.size/\len<=cap/\cur.toList.take (len*s)=vs
theorem iV.nil (h0:Nat)(h:Heap)(el:TypeId)(s:Nat):iV h0 h el s none 0 0 []:=⟨by simp,.inl ⟨rfl,rfl,rfl⟩⟩
theorem iV.row {cap:Nat}(O:iV h0 h el s a len cap vs):Row h a vs:=by
 have hl:=O.ln;rcases O.ok with⟨rfl,h1,_⟩|⟨g,cur,rfl,h1,h2,h3,h4,h5⟩
 .left;rw[h1,Nat.zero_mul]at hl;exact List.length_eq_zero_iff.1 hl
 .right;have:len*s<=cap*s:=Nat.mul_le_mul_right _ h4;exact⟨g,0,cur,el,(0,0),rfl,h2,by omega,by rw[List.drop_zero,hl];exact h5⟩
theorem iV.cap {cap:Nat}(O:iV h0 h el s a len cap vs):len<=cap:=by
 rcases O.ok with⟨_,h1,h2⟩|⟨g,cur,_,_,_,_,h4,_⟩<;>omega
theorem iV.keep {cap:Nat}(O:iV h0 h el s a len cap vs)(hk:∀p,a=some p->h'[p.block]? =h[p.block]?):iV h0 h' el s a len cap vs:=by
 refine⟨O.ln,?_⟩;rcases O.ok with h1|⟨g,cur,rfl,h1,h2,h3⟩
 .exact .inl h1
 .exact .inr ⟨g,cur,rfl,h1,(hk _ rfl).trans h2,h3⟩
theorem iV.lt {cap:Nat}(O:iV h0 h el s a len cap vs){p:Addr}(hp:a=some p):p.block<h.size/\h0<=p.block:=by
 rcases O.ok with⟨h1,_⟩|⟨g,cur,h1,h2,h3,h4⟩
 .rw[h1]at hp;cases hp
 .rw[h1]at hp;cases hp;exact⟨bA h3,h2⟩
theorem iV.ext {cap:Nat}(O:iV h0 h el s a len cap vs)(x:Ext h h'):iV h0 h' el s a len cap vs:=O.keep fun p hp=>x.old _ (O.lt hp).1
theorem iV.upd {cap b:Nat}(O:iV h0 h el s a len cap vs)(u:Upd h h' b)(hb:b<h0):iV h0 h' el s a len cap vs:=
 O.keep fun p hp=>u.old _ (by have:=(O.lt hp).2;omega)
theorem iV.mono {cap m':Nat}(O:iV h0 h el s a len cap vs)(hm:m'<=h0):iV m' h el s a len cap vs:=by
 refine⟨O.ln,?_⟩;rcases O.ok with h1|⟨g,cur,h1,h2,h3⟩
 .exact .inl h1
 .exact .inr ⟨g,cur,h1,by omega,h3⟩
theorem App.updV {h:Heap}{a':Option Addr}{cap:Nat}{o:Obj}(A:App h h' a a')(O:iV m h el s a len cap vs)(hc:h[c]? =some o)(hm:c<m):h'[c]? =some o:=
 (A.old c (bA hc) fun p hp=>by have:=(O.lt hp).2;omega).trans hc
theorem App.extV {h h1:Heap}{a':Option Addr}{cap:Nat}(A:App h h' a a')(O:iV m h el s a len cap vs)(x:Ext h1 h)(hm:h1.size<=m):Ext h1 h':=
 ⟨Nat.le_trans x.size A.size,fun c hc=>(A.old c (Nat.lt_of_lt_of_le hc x.size) fun p hp=>by have:=(O.lt hp).2;omega).trans (x.old c hc)⟩
theorem qJ {w:World}{k:Nat}(H:Row w.heap b vs)(hl:vs.length=m*s)(hk:k<=m):(Builtin.firstCells s k (.slice b m c)).run P w= .ok (vs.take (k*s)).toArray w:=by
 have hks:k*s<=m*s:=Nat.mul_le_mul_right _ hk;cases b with
 |none=>
  rcases H with h1|⟨g,off,cur,ct,fr,h1,_⟩
  .simp[Builtin.firstCells,h1]
  .cases h1
 |some a=>
  rcases H with h1|⟨g,off,cur,ct,fr,h1,h2,h3,h4⟩
  .subst h1;have h0:k*s=0:=by simp at hl;omega
   have:=run_firstCells_some (P:=P) w s k a m c [] (by simp[h0]) (by simp);simpa using this
  .cases h1;refine run_firstCells_some w s k ⟨g,off,none⟩ m c _ (by rw[List.length_take];omega) fun j u hu=> ?_
   rw[<-h4,List.getElem?_take]at hu;split at hu
   .rw[List.getElem?_take]at hu;split at hu
    .rw[List.getElem?_drop]at hu;exact Go.Run.vF h2 (by simpa using hu)
    .cases hu
   .cases hu
theorem Nr {ats:Array TypeId}(h1:ats[1]? =some t2)(hu:P.underlying t2=some (.slice e2))(H:Row h b vs)(hl:vs.length=m*s):Go.Run.Src P ats h s m (.slice b m c) vs:=by
 refine⟨⟨t2,_,h1,hu,.inl ⟨e2,rfl⟩⟩,fun w _=>by simp[Builtin.lenOf],fun w hw=> ?_,fun _ n hn w hw=> ?_⟩
 .subst hw;have:=qJ (P:=P) (c:=c) H hl (Nat.le_refl m);rwa[List.take_of_length_le (by omega)]at this
 .subst hw;exact qJ (P:=P) (c:=c) H hl hn
theorem iF (z:Array Value)(n:Nat):(Builtin.zeroCells z n).size=n*z.size:=by simp[Builtin.zeroCells]
theorem Ie {t:TypeId}{i:TypeInfo}{z:Value}(hu:P.underlying t=some (.slice el))(hu2:P.underlying t2=some (.slice e2))(hi:P.info? el=some i)(hsz:i.size=s)(hz:i.zero=some z)(hzs:z.cells.size=s){x y:Operand}{cap:Nat}{xs ys:List Value}{K:Value->Heap->Prop}(hx:ev er x= .slice a len cap)(hy:ev er y= .slice b m c)(O:iV h0 h el s a len cap xs)(h0h:h0<=h.size)(I:Row h b ys)(hyl:ys.length=m*s)(h1:∀u∈ys,u.oneCell'=true)(hb:len+m<=1000000)(hby:(len+m)*i.bytes<=1000000)(H:∀a' cap' h',iV h0 h' el s a' (len+m) cap' (xs++ys)->App h h' a a'->K (.slice a' (len+m) cap') h'):aI P (.call ⟨.builtin .append,#[x,y],#[t,t2]⟩) ty er h K:=by
 unfold aI;refine And.intro rfl fun w hw=> ?_
 subst hw;have hxl:=O.ln;have hlen:(xs++ys).length=(len+m)*s:=by rw[List.length_append,O.ln,hyl,Nat.add_mul]
 have hs:=Nr (P:=P) (ats:= #[t,t2]) (c:=c) rfl hu2 I hyl;have hargs: #[x,y].map (ev er)= #[.slice a len cap,.slice b m c]:=by simp[hx,hy]
 have key:∀v w',(Builtin.append_ #[t,t2] ty #[.slice a len cap,.slice b m c]).run P w= .ok v w'->Rest w w'->K v w'.heap->
  dQ P w K ((execOp (ev er) {dst:=none,op:= .call ⟨.builtin .append,#[x,y],#[t,t2]⟩,type:=ty,pos:= "",after:= #[],guard:=none}).run P w):=by
  intro v w' h1 h2 h3;have:(execOp (ev er) {dst:=none,op:= .call ⟨.builtin .append,#[x,y],#[t,t2]⟩,type:=ty,pos:= "",after:= #[],guard:=none}).run P w= .ok (.value v) w':=by
   simp only[execOp,resolve,invoke,builtin,Sem.run_bind,Sem.run_pure,Result.andThen_ok,hargs,h1]
  rw[this];exact⟨h3,h2⟩
 have grow:cap<len+m->dQ P w K ((execOp (ev er) {dst:=none,op:= .call ⟨.builtin .append,#[x,y],#[t,t2]⟩,type:=ty,pos:= "",after:= #[],guard:=none}).run P w):=by
  intro hgr;have g1:=Go.Run.uy (P:=P) (ty:=ty) (ats:= #[t,t2]) (z:=z) (sLen:=len) (sCap:=cap) (b:=a) (olds:=xs) rfl hu hi hz w (by rw[hsz];exact hs)
   (fun w' hw'=>by
    have hI:=O.row;rw[<-hw']at hI;have:=qJ (P:=P) (c:=cap) hI O.ln (Nat.le_refl len);rw[List.take_of_length_le (by omega)]at this;rw[hsz];exact this) hgr (by omega) (by omega)
  have hge:=grownCap_ge w (len+m) cap el;refine key _ _ g1 ⟨rfl,rfl,rfl⟩ (H _ _ _ ⟨hlen,.inr ⟨w.heap.size,_,rfl,h0h,jD,?_,hge,?_⟩⟩ ⟨by simp,fun c hc _=> ?_,fun p hp=> ?_⟩)
  .have e1:(len+m)*s+(grownCap w (len+m) cap el-(len+m))*s=grownCap w (len+m) cap el*s:=by rw[<-Nat.add_mul];congr 1;omega
   simp only[List.size_toArray,List.length_append,Array.length_toList,iF,hzs,hxl,hyl,Nat.add_mul]at e1 ⊢;omega
  .rw[List.toList_toArray,List.take_append_of_le_length (by omega),List.take_of_length_le (by omega)]
  .show(w.heap.push _)[c]? =_;rw[uo,if_neg (by omega)]
  .cases hp;exact .inr (Nat.le_refl _)
 rcases O.ok with⟨rfl,rfl,rfl⟩|⟨g,cur,rfl,q1,q2,q3,q4,q5⟩
 .by_cases hm:m=0
  .subst hm;have hy0:ys=[]:=List.length_eq_zero_iff.1 (by simpa using hyl);have hx0:xs=[]:=List.length_eq_zero_iff.1 (by simpa using hxl);have g1:=Go.Run.zZ (P:=P) (ty:=ty) (ats:= #[t,t2]) rfl hu hi w (x:= .slice b 0 c) (news:=ys) (by rw[hsz];exact hs);exact key _ _ g1 (Rest.refl w) (H none 0 w.heap ⟨by rw[hx0,hy0];simp,.inl ⟨rfl,rfl,rfl⟩⟩ ⟨Nat.le_refl _,fun _ _ _=>rfl,fun p hp=>by cases hp⟩)
  .exact grow (by omega)
 .by_cases hr:len+m<=cap
  .have hms:(len+m)*s<=cap*s:=Nat.mul_le_mul_right _ hr;rw[Nat.add_mul]at hms;have g1:=Go.Run.oq (P:=P) (ty:=ty) (ats:= #[t,t2]) (sLen:=len) (sCap:=cap) (off:=0) rfl hu hi w (by rw[hsz];exact hs) q2 h1 hr (by rw[hsz];omega);refine key _ _ g1 ⟨rfl,rfl,rfl⟩ (H _ _ _ ⟨hlen,.inr ⟨g,_,rfl,q1,(setRow_heap q2 _).1,?_,hr,?_⟩⟩ ⟨by simp[World.setRow],fun c hc hne=> ?_,fun p hp=> .inl ⟨p,hp,rfl⟩⟩)
   .simp[splice,hsz];omega
   .rw[List.toList_toArray,hsz,Nat.zero_add,splice,q5];rw[List.take_append_of_le_length (by omega),List.take_of_length_le (by omega)]
   .have:g≠c:=hne _ rfl;simp[World.setRow,Array.getElem?_modify,this]
  .exact grow (by omega)
theorem WZ {t:TypeId}{z:Value}(hu:P.underlying t=some (.slice el))(hu2:P.underlying t2=some (.slice e2))(hi:(P.info? el).isSome=true)(hsz:szT P el=s)(hz:dJ P el=some z)(hzs:z.cells.size=s){x y:Operand}{cap:Nat}{xs ys:List Value}{K:Value->Heap->Prop}(hx:ev er x= .slice a len cap)(hy:ev er y= .slice b m c)(O:iV h0 h el s a len cap xs)(h0h:h0<=h.size)(I:Row h b ys)(hyl:ys.length=m*s)(h1:∀u∈ys,u.oneCell'=true)(hb:len+m<=1000000)(hby:(len+m)*iA P el<=1000000)(H:∀a' cap' h',iV h0 h' el s a' (len+m) cap' (xs++ys)->App h h' a a'->K (.slice a' (len+m) cap') h'):aI P (.call ⟨.builtin .append,#[x,y],#[t,t2]⟩) ty er h K:=by
 obtain⟨i,hi⟩:=Option.isSome_iff_exists.1 hi;refine Ie hu hu2 hi (by simpa[szT,hi]using hsz) (z:=z) (by simpa[dJ,hi]using hz) hzs hx hy O h0h I hyl h1 hb (by simpa[iA,hi]using hby) H
end
end vrows
theorem Zd {P:Program}{x:Operand}{ty:TypeId}{e:Env}{h:Heap}{K:Value->Heap->Prop}:opW P (.entry x) ty e h K=aI P (.entry x) ty e h K:=by
 unfold opW pvW zH;rfl
section steps
variable {l:Option Nat}{P:Program}{e:Env}{d:List Deferred}{h:Heap}{k:aj}
theorem zBy {a b:Code}(H:WP l P a (iC (fun e d h=>WP l P b k e d h) k) e d h):WP l P (.seq a b) k e d h:=by
 unfold WP at *;refine fun w hw=>wpIn_seq (wpIn_mono (H w hw) ?_)
 rintro x a' w' ⟨hq,hr⟩;unfold iC at hq;cases x with
 |normal=>
  have h2:=hq w' rfl;rw[dA]at h2;exact wpIn_mono h2 fun x a w'' q=>⟨q.1,hr.trans q.2⟩
 |_=>exact⟨hq,hr⟩
theorem zAq {i:Nat}{c:Code}(H:WP l P c (iK i k) e d h):WP l P (.block i c) k e d h:=by
 unfold WP at *;refine fun w hw=>wpIn_block (wpIn_mono (H w hw) ?_)
 rintro x a' w' ⟨hq,hr⟩;unfold iK at hq;cases x with
 |exit j=>
  simp only at hq;simp only[Exit.inBlock];split
  .rename_i hj;rw[if_pos hj]at hq;exact⟨hq,hr⟩
  .rename_i hj;rw[if_neg hj]at hq;exact⟨hq,hr⟩
 |_=>exact⟨hq,hr⟩
theorem zB4 {c:Operand}{x y:Code}{b:Bool}(hb:ev e c= .bool b)(H:WP l P (if b then x else y) k e d h):WP l P (.cond c x y) k e d h:=by
 unfold WP at *;refine fun w hw=>wpIn_cond_split (t:=b) (by rw[dY];exact hb) (fun ht=> ?_) (fun ht=> ?_)
 .subst ht;exact H w hw
 .subst ht;exact H w hw
def Ty (P:Program)(all:List Oper):Nat->List Oper->aj->Env->List Deferred->Heap->Prop
 |_,[],_,_,_,_=>False
 |0,o::rest,k,e,d,h=>o.guard=none/\aI P o.op o.type e h (fun v h'=>dN P all rest k (aU e o.dst v) d h')
 |j+1,o::rest,k,e,d,h=>o.guard=none/\opW P o.op o.type e h (fun v h'=>Ty P all j rest k (aU e o.dst v) d h')
theorem yf {all:List Oper}{w0:World}:∀(j:Nat) (ops:List Oper) (e:Env) (d:List Deferred) (w:World),Eng.Rest w0 w->Ty P all j ops k e d w.heap->
 wpListIn (fen l) 0 P all.toArray (fun x a w'=>k x a.tmps.toList a.defers w'.heap/\Eng.Rest w0 w') ops ⟨e.toArray,d⟩ w
 |j,[],e,d,w,hr,H=>by cases j<;>exact H.elim
 |0,o::rest,e,d,w,hr,H=>by
  obtain⟨hg,H⟩:=H;unfold wpListIn;have hw:Region.wanted o (yielded all.toArray e.toArray)=true:=by simp[Region.wanted,hg]
  simp only[hw,if_true];refine iW (bH ?_ H);intro v h' hk w' hw' hr';subst hw';exact mW rest _ d w' (hr.trans hr') hk
 |j+1,o::rest,e,d,w,hr,H=>by
  obtain⟨hg,H⟩:=H;unfold wpListIn;have hw:Region.wanted o (yielded all.toArray e.toArray)=true:=by simp[Region.wanted,hg]
  simp only[hw,if_true];refine iW (bH ?_ (aM H));intro v h' hk w' hw' hr';subst hw';exact yf j rest _ d w' (hr.trans hr') hk
theorem Ym {id:Nat}{ops:List Oper}(j:Nat)(H:Ty P ops j ops k e d h):WP l P (.region id ops.toArray false) k e d h:=by
 unfold WP;intro w hw;subst hw;exact wpIn_region_list (by have:=yf (l:=l) (w0:=w) j ops e d w (Eng.Rest.refl w) H;simpa using this)
theorem zAv {ty u yt:TypeId}{x y:Operand}{n:IntKind}{a b:Int}{K:Value->Heap->Prop}(hx:ev e x= .int n a)(hy:ev e y= .int n b)(H:K (.int n (n.wrap (a-b))) h):aI P (.binOp .sub u x y yt) ty e h K:=
 aK rfl _ H fun w hw=>by simp[execOp,eqGuard,hx,hy,Go.binOp,Op.intArith]
end steps
section maps
open Go.Run
variable {P:Program}{h:Heap}{er:Env}{ty:TypeId}{α:Type}
section
variable {Q:Value->Heap->Prop}{b c:Nat}{es:List (α×Value×Nat)}{kv:α->Value}{x:Operand}
def dE (kv:α->Value)(x:α×Value×Nat):MapEntry:={key:=kv x.1,val:=x.2.1,born:=x.2.2}
theorem DW {kv:α->Value}:∀(es:List (α×Value×Nat)) (j:Nat),(es.map (dE kv)).eraseIdx j=(es.eraseIdx j).map (dE kv)
 |[],j=>by simp
 |x::r,0=>by simp
 |x::r,j+1=>by simp[DW r j]
structure jU (kv:α->Value)(h:Heap)(b:Nat)(es:List (α×Value×Nat))(c:Nat):Prop where
 obj:h[b]? =some (.map (es.map (dE kv)).toArray c)
 born:(es.map (·.2.2)).Pairwise (·<·)
 lt:∀x∈es,x.2.2<c
theorem jU.empty (h:Heap):jU kv (h.push (.map #[] 0)) h.size [] 0:=⟨by simp,by simp,by simp⟩
theorem jU.keep {h':Heap}(M:jU kv h b es c)(hk:h'[b]? =h[b]?):jU kv h' b es c:=⟨hk.trans M.obj,M.born,M.lt⟩
theorem jU.ext {h':Heap}(M:jU kv h b es c)(x:Ext h h'):jU kv h' b es c:=M.keep (x.old _ (bA M.obj))
theorem qy {o o':Obj}(hb:h[b]? =some o):(h.setIfInBounds b o')[b]? =some o'/\Upd h (h.setIfInBounds b o') b:=by
 have hlt:=bA hb;exact⟨by simp[Array.getElem?_setIfInBounds,hlt],by simp,fun b' hb'=>Array.getElem?_setIfInBounds_ne (Ne.symm hb')⟩
theorem Yg {u kt vt:TypeId}(hu:P.underlying u=some (.map kt vt))(M:jU kv h b es c)(hx:ev er x= .map (some b))(H:Q (.pointer (some ⟨h.size,0,none⟩)) (h.push (.mapIter (some b) c #[] c))):aI P (.range u x) ty er h Q:=by
 refine az rfl (.pointer (some ⟨h.size,0,none⟩)) (h.push (.mapIter (some b) c #[] c)) H fun w hw=> ?_
 subst hw;have g1:=MapKept.run_getObj_map (P:=P) M.obj;exact⟨{w with heap:=w.heap.push (.mapIter (some b) c #[] c)},by simp[execOp,Instr.range,hx,run_underlying hu,g1],rfl,rfl,rfl,rfl⟩
theorem Ha (es:List (α×Value×Nat))(seen:Array Nat):(leftOf (es.map (dE kv)).toArray seen).toList=(es.filter fun x=> !seen.contains x.2.2).map (dE kv):=by
 unfold leftOf;rw[Array.toList_filter,List.toList_toArray,List.filter_map];rfl
theorem zAK {r since c0:Nat}{seen:Array Nat}(M:jU kv h b es c)(hr:h[r]? =some (.mapIter (some b) since seen c0))(hold:∀x∈es,x.2.2<since)(hsc:since<=c0)(hx:ev er x= .pointer (some ⟨r,0,none⟩))(H0:(∀x∈es,seen.contains x.2.2=true)->Q (.tuple #[.bool false]) h)(H1:∀e∈es,seen.contains e.2.2=false->∀h',h'[r]? =some (.mapIter (some b) since (seen.push e.2.2) c)->Upd h h' r->Q (.tuple #[.bool true,kv e.1,e.2.1]) h'):aI P (.next x false) ty er h Q:=by
 unfold aI;refine And.intro rfl fun w hw=> ?_
 have M1:=M.obj;rw[<-hw]at M1 hr;rcases run_next_at (P:=P) w ty r b since c0 seen _ c hr M1 (fun y hy=>by
  rw[List.toList_toArray]at hy;obtain⟨q,hq,rfl⟩:=List.mem_map.1 hy;exact hold q hq) hsc with⟨h1,h2⟩|⟨e,he,w1,hw1,hrun⟩
 .have:(execOp (ev er) {dst:=none,op:= .next x false,type:=ty,pos:= "",after:= #[],guard:=none}).run P w= .ok (.value (.tuple #[.bool false])) w:=by
   simp[execOp,hx,h2]
  rw[this];refine⟨?_,Rest.refl w⟩;rw[hw];refine H0 fun y hy=> ?_
  rw[<-Array.length_toList,Ha]at h1;have h1:=List.length_eq_zero_iff.1 h1;rw[List.map_eq_nil_iff,List.filter_eq_nil_iff]at h1;have:=h1 y hy;simpa using this
 .rw[Ha]at he;obtain⟨q,hq,rfl⟩:=List.mem_map.1 he;have hq:=List.mem_filter.1 hq;have:(execOp (ev er) {dst:=none,op:= .next x false,type:=ty,pos:= "",after:= #[],guard:=none}).run P w= .ok (.value (.tuple #[.bool true,kv q.1,q.2.1])) (ChangeMaps.setBlock w1 r (.mapIter (some b) since (seen.push q.2.2) c)):=by
   simp only[execOp,hx,Sem.run_bind,hrun,Result.andThen_ok,Sem.run_pure,dE]
  rw[this];have hs:=qy (o':= .mapIter (some b) since (seen.push q.2.2) c) hr;refine⟨H1 q hq.1 (by simpa using hq.2) _ ?_ ?_,?_⟩
  .rcases hw1 with rfl|rfl<;>exact hs.1
  .rw[<-hw];rcases hw1 with rfl|rfl<;>exact hs.2
  .rcases hw1 with rfl|rfl<;>exact⟨rfl,rfl,rfl⟩
theorem Yi {r since:Nat}{seen:Array Nat}(M:jU kv h b es c){e:α×Value×Nat}(he:e∈es)(hr:h[r]? =some (.mapIter (some b) since (seen.push e.2.2) c))(hx:ev er x= .pointer (some ⟨r,0,none⟩))(H:Q (.tuple #[kv e.1,e.2.1]) h):aI P (.entry x) ty er h Q:=by
 refine aK rfl _ H fun w hw=> ?_
 have M1:=M.obj;rw[<-hw]at M1 hr;have:=run_entry_at (P:=P) w r b since seen _ c (dE kv e) hr M1 (by rw[List.toList_toArray];exact List.mem_map.2 ⟨e,he,rfl⟩) (by
  rw[List.toList_toArray,List.map_map];exact M.born.imp (fun h=>Nat.ne_of_lt h))
 simp only[execOp,hx,Sem.run_bind,this,Result.andThen_ok,Sem.run_pure,dE]
end
variable [DecidableEq α]
section
variable {Q:Value->Heap->Prop}{a:α}{b c:Nat}{es:List (α×Value×Nat)}{kt:TypeId}{kv:α->Value}{u vt:TypeId}{x:Operand}
def ku (a:α):List (α×Value×Nat)->Nat->Option (Nat×Value)
 |[],_=>none
 |x::r,i=>if a=x.1 then some (i,x.2.1)else ku a r (i+1)
def fZ (a:α):List (α×Value×Nat)->Option Value
 |[]=>none
 |x::r=>if a=x.1 then some x.2.1 else fZ a r
def fF (a:α)(v:Value)(c:Nat):List (α×Value×Nat)->List (α×Value×Nat)
 |[]=>[(a,v,c)]
 |x::r=>if a=x.1 then(a,v,x.2.2)::r else x::fF a v c r
def lW (a:α):List (α×Value×Nat)->List (α×Value×Nat)
 |[]=>[]
 |x::r=>if a=x.1 then r else x::lW a r
theorem jY {a:α}:∀{es:List (α×Value×Nat)} {i:Nat},ku a es i=none->fZ a es=none/\(∀v c,fF a v c es=es++[(a,v,c)])/\lW a es=es
 |[],i,_=>⟨rfl,fun _ _=>rfl,rfl⟩
 |x::r,i,h=>by
  unfold ku at h;split at h
  .cases h
  .rename_i hx;obtain⟨h1,h2,h3⟩:=jY h;exact⟨by simp[fZ,hx,h1],fun v c=>by simp[fF,hx,h2],by simp[lW,hx,h3]⟩
theorem jT {a:α}:∀{es:List (α×Value×Nat)} {i j:Nat} {u:Value},ku a es i=some (j,u)->
 ∃k x,j=i+k/\es[k]? =some x/\x.1=a/\x.2.1=u/\fZ a es=some u/\(∀v c,fF a v c es=es.modify k (fun x=>(a,v,x.2.2)))/\lW a es=es.eraseIdx k
 |[],i,j,u,h=>by cases h
 |x::r,i,j,u,h=>by
  unfold ku at h;split at h
  .rename_i hx;cases h;exact⟨0,x,rfl,rfl,hx.symm,rfl,by simp[fZ,hx],fun v c=>by simp[fF,hx],by simp[lW,hx]⟩
  .rename_i hx;obtain⟨k,y,h1,h2,h3,h4,h5,h6,h7⟩:=jT h;exact⟨k+1,y,by omega,by simpa using h2,h3,h4,by simp[fZ,hx,h5],fun v c=>by simp[fF,hx,h6],by simp[lW,hx,h7]⟩
structure Keys (P:Program)(kt:TypeId)(kv:α->Value):Prop where
 find:∀(a:α) (es:List (α×Value×Nat)) (W:World),(Instr.findKey kt (kv a) (es.map (dE kv))).run P W= .ok (ku a es 0) W
 check:∀(a:α) (em:Bool) (W:World),(Instr.checkKey em 10000 kt (kv a)).run P W= .ok () W
 stays:∀(a:α) (W:World),(Instr.keyThatStays (kv a) (kv a)).run P W= .ok (kv a) W
theorem Hu {kt:TypeId}{ki:TI}{kf:α->T}{kv:α->Value}(tf:TF P kt ki)(vr:∀a,VR (fun _=>none) (kf a) (kv a))(eq:∀a b,fV ki (kf a) (kf b)=some (decide (a=b)))(a:α)(W:World):
 ∀(es:List (α×Value×Nat)) (i:Nat),(Instr.findAsking kt (kv a) (es.map (dE kv)) i).run P W= .ok (ku a es i) W
 |[],i=>by simp[Instr.findAsking,ku]
 |x::es,i=>by
  obtain⟨q1,_⟩:=xk tf (vr a) (vr x.1) (eq a x.1) W;have ih:=Hu tf vr eq a W es (i+1);by_cases hx:a=x.1
  .subst hx;simp only[decide_true]at q1;simp[Instr.findAsking,ku,dE,q1,Result.andThen]
  .simp[Instr.findAsking,ku,dE,q1,hx,Result.andThen]at q1 ih ⊢;exact ih
theorem Keys.flat {ki:TI}{kf:α->T}(hw:(match P.underlying kt with|some (.array _ _)|some (.struct _)=>true|_=>false)=true)(tf:TF P kt ki)(vr:∀a,VR (fun _=>none) (kf a) (kv a))(eq:∀a b,fV ki (kf a) (kf b)=some (decide (a=b))):Keys P kt kv where
 find a es W:=by
  rw[run_findKey_eq W hw];exact Hu tf vr eq a W es 0
 check a em W:=gM tf (vr a) (by rw[eq a a];simp) em W
 stays a W:=xS (vr a) (by rw[eq a a];simp) W
def jJ (a:α)(es:List (α×Value×Nat))(c:Nat):Nat:=if(fZ a es).isSome then c else c+1
theorem CL {a:α}{v:Value}{c:Nat}:∀{es:List (α×Value×Nat)},(fF a v c es).map (·.2.2)=es.map (·.2.2)++(if(fZ a es).isSome then[]else[c])
 |[]=>rfl
 |x::r=>by
  by_cases hx:a=x.1
  .simp[fF,fZ,hx]
  .simp[fF,fZ,hx,CL (es:=r)]
theorem zY {a:α}:∀{es:List (α×Value×Nat)},(lW a es).Sublist es
 |[]=>List.Sublist.refl _
 |x::r=>by
  by_cases hx:a=x.1
  .simp[lW,hx]
  .simp only[lW,hx,if_false];exact zY.cons_cons x
theorem jU.put {h':Heap}{v:Value}(M:jU kv h b es c)(ho:h'[b]? =some (.map ((fF a v c es).map (dE kv)).toArray (jJ a es c))):jU kv h' b (fF a v c es) (jJ a es c):=by
 refine⟨ho,?_,fun x hx=> ?_⟩
 .rw[CL];split
  .simpa using M.born
  .rw[List.pairwise_append];refine⟨M.born,by simp,fun y hy z hz=> ?_⟩;obtain⟨q,hq,rfl⟩:=List.mem_map.1 hy;have:=M.lt q hq;simp at hz;omega
 .have h1:x.2.2∈(fF a v c es).map (·.2.2):=List.mem_map.2 ⟨x,hx,rfl⟩;rw[CL]at h1;unfold jJ;rcases List.mem_append.1 h1 with h1|h1
  .obtain⟨q,hq,hqe⟩:=List.mem_map.1 h1;have:=M.lt q hq;split<;>omega
  .split at h1
   .cases h1
   .rename_i hn;simp at h1;rw[if_neg hn];omega
theorem jU.del {h':Heap}(M:jU kv h b es c)(ho:h'[b]? =some (.map ((lW a es).map (dE kv)).toArray c)):jU kv h' b (lW a es) c:=
 ⟨ho,M.born.sublist (zY.map _),fun x hx=>M.lt x (zY.subset hx)⟩
theorem zAR (hu:P.underlying u=some (.map kt vt))(K:Keys P kt kv)(M:jU kv h b es c){v:Value}{k y:Operand}(hx:ev er x= .map (some b))(hk:ev er k=kv a)(hy:ev er y=v)(H:∀h',jU kv h' b (fF a v c es) (jJ a es c)->Upd h h' b->Q undef h'):aI P (.mapUpdate u x k y) ty er h Q:=by
 have hs:=qy (o':= .map ((fF a v c es).map (dE kv)).toArray (jJ a es c)) M.obj;refine oM rfl (h.setIfInBounds b (.map ((fF a v c es).map (dE kv)).toArray (jJ a es c))) (H _ (M.put hs.1) hs.2) fun W hW=>⟨{W with heap:=W.heap.setIfInBounds b (.map ((fF a v c es).map (dE kv)).toArray (jJ a es c))},?_,by rw[hW],rfl,rfl,rfl⟩
 have M1:=M.obj;rw[<-hW]at M1;have c1:=K.check a false W;have f1:=K.find a es W;have g1:=MapKept.run_getObj_map (P:=P) M1;have g2:=MapKept.run_setObj_map (P:=P) (.map ((fF a v c es).map (dE kv)).toArray (jJ a es c)) M1;cases hf:ku a es 0 with
 |none=>
  obtain⟨q1,q2,_⟩:=jY hf;have e1:((es.map (dE kv)).toArray.push {key:=kv a,val:=v,born:=c})=((fF a v c es).map (dE kv)).toArray:=by simp[q2,dE]
  have e2:jJ a es c=c+1:=by simp[jJ,q1]
  rw[hf]at f1;rw[e2]at g2 ⊢;simp only[execOp,Instr.mapUpdate,hx,hk,hy,Sem.run_bind,run_underlying hu,Result.andThen_ok,g1,c1,List.toList_toArray,f1,e1,g2,Sem.run_pure]
 |some r=>
  obtain⟨j,u0⟩:=r;obtain⟨k0,x0,h1,h2,h3,h4,h5,h6,_⟩:=jT hf;have h1:j=k0:=by omega
  subst h1;have e1:((es.map (dE kv)).toArray.modify j fun e=>{e with key:=kv a,val:=v})=((fF a v c es).map (dE kv)).toArray:=by
   apply Array.toList_inj.1;rw[gN,h6];apply List.ext_getElem?;intro i;simp only[List.toList_toArray,List.getElem?_modify,List.getElem?_map,Option.map_map];split
   .cases es[i]? <;>simp[dE]
   .cases es[i]? <;>simp[dE]
  have e2:jJ a es c=c:=by simp[jJ,h5]
  have e3:((es.map (dE kv)).toArray[j]?.map (·.key)).getD (kv a)=kv a:=by simp[h2,dE,h3]
  have st:=K.stays a W;rw[hf]at f1;rw[e2]at g2 ⊢;simp only[execOp,Instr.mapUpdate,hx,hk,hy,Sem.run_bind,run_underlying hu,Result.andThen_ok,g1,c1,List.toList_toArray,f1,e3,st,e1,g2,Sem.run_pure]
theorem zBF (hu:P.underlying u=some (.map kt vt))(K:Keys P kt kv)(M:jU kv h b es c){t2:TypeId}{k:Operand}(hx:ev er x= .map (some b))(hk:ev er k=kv a)(H:∀h',jU kv h' b (lW a es) c->Upd h h' b->Q (.tuple #[]) h'):aI P (.call ⟨.builtin .delete,#[x,k],#[u,t2]⟩) ty er h Q:=by
 have hs:=qy (o':= .map ((lW a es).map (dE kv)).toArray c) M.obj;refine az rfl (.tuple #[]) (h.setIfInBounds b (.map ((lW a es).map (dE kv)).toArray c)) (H _ (M.del hs.1) hs.2) fun W hW=>⟨{W with heap:=W.heap.setIfInBounds b (.map ((lW a es).map (dE kv)).toArray c)},?_,by rw[hW],rfl,rfl,rfl⟩
 have M1:=M.obj;rw[<-hW]at M1;have c1:=fun em=>K.check a em W
 have f1:=K.find a es W;have g1:=MapKept.run_getObj_map (P:=P) M1;have g2:=MapKept.run_setObj_map (P:=P) (.map ((lW a es).map (dE kv)).toArray c) M1;have hargs: #[x,k].map (ev er)= #[.map (some b),kv a]:=by simp[hx,hk]
 have key:(Builtin.delete_ #[u,t2] ty #[.map (some b),kv a]).run P W= .ok (.tuple #[]) {W with heap:=W.heap.setIfInBounds b (.map ((lW a es).map (dE kv)).toArray c)}:=by
  cases hf:ku a es 0 with
  |none=>
   obtain⟨_,_,q3⟩:=jY hf;rw[hf]at f1;rw[q3]at g2 ⊢;simp[Builtin.delete_,run_underlying hu,g1,c1,f1,g2]
  |some r=>
   obtain⟨j,u0⟩:=r;obtain⟨k0,x0,h1,h2,h3,h4,h5,_,h7⟩:=jT hf;have h1:j=k0:=by omega
   subst h1;have e1:((es.map (dE kv)).toArray.eraseIdxIfInBounds j)=((lW a es).map (dE kv)).toArray:=by
    apply Array.toList_inj.1;rw[pG,h7];exact DW es j
   rw[hf]at f1;rw[<-e1]at g2 ⊢;simp only[List.eraseIdxIfInBounds_toArray]at g2 ⊢;simp[Builtin.delete_,run_underlying hu,g1,c1,f1,g2]
 simp only[execOp,resolve,invoke,builtin,Sem.run_bind,Sem.run_pure,Result.andThen_ok,hargs,key]
theorem zAU {z:Value}(hu:P.underlying u=some (.map kt vt))(hz:dJ P vt=some z)(K:Keys P kt kv)(M:jU kv h b es c){ok:Bool}{k:Operand}(hx:ev er x= .map (some b))(hk:ev er k=kv a)(H:Q (if ok then .tuple #[(fZ a es).getD z,.bool (fZ a es).isSome]else(fZ a es).getD z) h):aI P (.lookup u x k ok) ty er h Q:=by
 refine aK rfl _ H fun W hW=> ?_
 have M1:=M.obj;rw[<-hW]at M1;have c1:=fun em=>K.check a em W
 have f1:=K.find a es W;have g1:=MapKept.run_getObj_map (P:=P) M1;have hz':(zeroValue vt).run P W= .ok z W:=by
  unfold dJ at hz;cases hj:P.info? vt with
  |none=>simp[hj]at hz
  |some i=>simp only[hj,Option.bind_some]at hz;simp[zeroValue,typeInfo,hj,hz]
 cases hf:ku a es 0 with
 |none=>
  obtain⟨q1,_,_⟩:=jY hf;rw[hf]at f1;rw[q1];cases ok<;>simp[execOp,Instr.lookup,hx,hk,run_underlying hu,g1,c1,f1,hz',Result.andThen]
 |some r=>
  obtain⟨j,u0⟩:=r;obtain⟨k0,x0,h1,h2,h3,h4,h5,_,h7⟩:=jT hf;rw[hf]at f1;rw[h5];cases ok<;>simp[execOp,Instr.lookup,hx,hk,run_underlying hu,g1,c1,f1,Result.andThen]
end
end maps
end Go.Eng
end
section
namespace Go.Proofs.YtejmkibjpaoahaaGreatDoor
open Go Go.Proofs Go.Eng Go.Run Tab
section
variable {K:Value->Eng.Heap->Prop}{P:Program}{a:Option Addr}{e:Env}{h:Eng.Heap}{ty:TypeId}{x:Operand}
set_option maxRecDepth 100000
set_option linter.unusedSimpArgs false
set_option linter.unusedVariables false
set_option linter.defProp false
def YtejmkibjpaoahaaGreatDoorCopyFs121:=(And.intro (And.intro @agg127 (And.intro @fo129_0 @inf127)) (And.intro @sz127 (And.intro @Tryz.underlying127 @Tryz.underlying253)))
theorem noEsc (x:Value)(w:World):(callFunc 175 #[x]).run Tryz.prog w= .ok (.value x) w:=by
 rw[run_callFunc_extern (fn:=Tryz.f175) (by kernel_rfl) (by kernel_rfl) (by kernel_rfl) (by kernel_rfl) (e:=Extern.AbiNoEscape.same) (by kernel_rfl)];rfl
theorem ptrNil {u yt el:TypeId}(hu:P.underlying u=some (.pointer el)){y:Operand}(hx:ev e x= .pointer a)(hy:ev e y= .pointer none)(H:K (.bool a.isNone) h):aI P (.binOp .eql u x y yt) ty e h K:=
 aK rfl _ H fun w _=>by simp[execOp,hx,hy,eqGuard,Go.binOp,Xr hu]
theorem ptrSame {u yt el:TypeId}{j:TypeInfo}(hu:P.underlying u=some (.pointer el))(hj:P.info? el=some j){y:Operand}{a:Addr}(hx:ev e x= .pointer (some a))(hy:ev e y= .pointer (some a))(H:K (.bool false) h):aI P (.binOp .neq u x y yt) ty e h K:=
 aK rfl _ H fun w _=>by simp[execOp,hx,hy,eqGuard,Lib.run_neq_ptr_same w a hu hj]
theorem cvW_ptr {u s:Option TypeDesc}{F:Prop}:cvW (.pointer a) u s F h K=F:=by unfold cvW;rfl
theorem lies115:liesAt Tryz.prog Tryz.prog.depth 129 (2/Tryz.prog.cellsOf 129) 0 129 1=true:=by kernel_rfl
theorem binW_ptr {op:BinOp}{b:Option Addr}{F:Prop}:dF op (.pointer a) (.pointer b) h K F=F:=by unfold dF;rfl
theorem conv_to {s d:TypeId}{a:Addr}(hrun:∀w:World,w.heap=h->(convert s d (.pointer (some a))).run P w= .ok (.pointer (some a)) w)(hx:ev e x= .pointer (some a))(H:K (.pointer (some a)) h):aI P (.convert s d x) ty e h K:=
 aK rfl _ H fun w hw=>by
  simp only[execOp,hx,Sem.run_bind,hrun w hw,Result.andThen_ok];rfl
theorem callN {v:Value}{ats:Array TypeId}(hx:ev e x=v)(H:K v h):aI Tryz.prog (.call ⟨.value (.func 175),#[x],ats⟩) ty e h K:=
 aK rfl v H fun w hw=>by
  have e1:ev e (Operand.func 175)=Value.func (.func 175) #[] #[]:=rfl;simp only[execOp,resolve,e1,Deferred.ofValue,invoke,Sem.run_bind,Sem.run_pure,Result.andThen_ok];have:=noEsc v w;simpa[hx]using this
theorem copyQ:Xm Tryz.prog 121 129:=by
 intro h r c d hr hc;have hlt:=bA hr;have hne:¬(r=h.size):=by omega
 refine kJ Tryz.func121 rfl bod121 ?_;simp only[Tryz.ntmps121,Tryz.results121,coreS,Value.cells,Value.oneCell',Nat.reduceAdd,Nat.reduceSub,Nat.reduceMul,Nat.reduceLeDiff,Int.reduceEq,Nat.reduceEqDiff,YtejmkibjpaoahaaGreatDoorCopyFs121];refine zBy (dI _ _ _ _ _ ?_);rcases hc with rfl|rfl
 .simp only[hr,splice,coreS,Value.cells,Value.oneCell',Nat.reduceAdd,Nat.reduceSub,Nat.reduceMul,Nat.reduceLeDiff,Int.reduceEq,Nat.reduceEqDiff,YtejmkibjpaoahaaGreatDoorCopyFs121];rw[binW_ptr];refine ptrNil Tryz.underlying127 (by rfl) (by rfl) ?_;simp only[Option.isNone,coreS,Value.cells,Value.oneCell',Nat.reduceAdd,Nat.reduceSub,Nat.reduceMul,Nat.reduceLeDiff,Int.reduceEq,Nat.reduceEqDiff,YtejmkibjpaoahaaGreatDoorCopyFs121];refine zB4 (b:=true) rfl ?_;simp only[if_true];refine Ym 3 ?_;simp only[Ty];refine⟨trivial,?_⟩;simp only[coreS,Value.cells,Value.oneCell',Nat.reduceAdd,Nat.reduceSub,Nat.reduceMul,Nat.reduceLeDiff,Int.reduceEq,Nat.reduceEqDiff,YtejmkibjpaoahaaGreatDoorCopyFs121];rw[cvW_ptr];obtain⟨j,hj⟩:=Option.isSome_iff_exists.1 inf129;have hjs:j.size=2:=by have:=sz129;simp[szT,hj]at this;exact this
  have hsh:∀w:World,w.heap=h->w.shape? r=some (129,2):=fun w hw=>by unfold World.shape?;rw[hw,hr];rfl
  refine conv_to (fun w hw=>Lib.run_to_unsafe w ⟨r,0,none⟩ Tryz.underlying127 Tryz.underlying253 hj (by omega) (hsh w hw) (Nat.zero_lt_succ 1)) (by rfl) ?_;refine callN (v:= .pointer (some ⟨r,0,none⟩)) (by rfl) ?_;rw[cvW_ptr];refine conv_to (fun w hw=>Lib.run_from_unsafe w ⟨r,0,none⟩ Tryz.underlying253 Tryz.underlying127 hj (hsh w hw) lies115) (by rfl) ?_;simp only[hr,splice,coreS,U1,splice,Value.cells,Value.oneCell',Nat.reduceAdd,Nat.reduceSub,Nat.reduceMul,Nat.reduceLeDiff,Int.reduceEq,Nat.reduceEqDiff,YtejmkibjpaoahaaGreatDoorCopyFs121];rfl
 .simp only[hr,splice,coreS,Value.cells,Value.oneCell',Nat.reduceAdd,Nat.reduceSub,Nat.reduceMul,Nat.reduceLeDiff,Int.reduceEq,Nat.reduceEqDiff,YtejmkibjpaoahaaGreatDoorCopyFs121];rw[binW_ptr];refine ptrNil Tryz.underlying127 (by rfl) (by rfl) ?_;simp only[Option.isNone,coreS,Value.cells,Value.oneCell',Nat.reduceAdd,Nat.reduceSub,Nat.reduceMul,Nat.reduceLeDiff,Int.reduceEq,Nat.reduceEqDiff,YtejmkibjpaoahaaGreatDoorCopyFs121];refine zB4 (b:=false) rfl ?_;simp only[Bool.false_eq_true,if_false];refine dI _ _ _ _ _ ?_;simp only[hr,splice,coreS,Value.cells,Value.oneCell',Nat.reduceAdd,Nat.reduceSub,Nat.reduceMul,Nat.reduceLeDiff,Int.reduceEq,Nat.reduceEqDiff,YtejmkibjpaoahaaGreatDoorCopyFs121];rw[binW_ptr];obtain⟨j,hj⟩:=Option.isSome_iff_exists.1 inf129;refine ptrSame Tryz.underlying127 hj (by rfl) (by rfl) ?_;simp only[hr,splice,coreS,Value.cells,Value.oneCell',Nat.reduceAdd,Nat.reduceSub,Nat.reduceMul,Nat.reduceLeDiff,Int.reduceEq,Nat.reduceEqDiff,YtejmkibjpaoahaaGreatDoorCopyFs121];apply Array.ext_getElem?;intro j;rw[Array.getElem?_setIfInBounds];split
  .rename_i hj;subst hj;exact hr
  .rfl
end
end Go.Proofs.YtejmkibjpaoahaaGreatDoor
end
