/- The engine: append to slices of integers, of whatever capacity. No condition. -/
import Derived.Test.YtljjlhbbcjjmlaaGreatDoorRunT
import Derived.Laws.CopyRow
set_option linter.unusedVariables false
set_option linter.unusedSimpArgs false
namespace Go.Eng
open Go
theorem Upd.trans {a b c:Heap}{g:Nat}(x:Upd a b g)(y:Upd b c g):Upd a c g:=⟨y.size.trans x.size,fun i hi=>(y.old i hi).trans (x.old i hi)⟩
theorem zBY {n:Int}:InK .u64 n=(0<=n/\n<=18446744073709551615):=by simp[InK,IntKind.min,IntKind.max,IntKind.signed,IntKind.bits]
theorem zBh {n:Int}:InK .u32 n=(0<=n/\n<=4294967295):=by simp[InK,IntKind.min,IntKind.max,IntKind.signed,IntKind.bits]
theorem Upd.refl (a:Heap)(g:Nat):Upd a a g:=⟨rfl,fun _ _=>rfl⟩
section apps
variable {P:Program}{h0:Nat}{h:Heap}{er:Env}{ty:TypeId}
section
variable {K:Value->Heap->Prop}{a a' b:Option Addr}{c:Nat}{ct e2 el:TypeId}{g:Nat}{h':Heap}{len m n:Nat}{t t2:TypeId}{v:Value}{x:Operand}{xs:List Int}{y:Operand}{ys:List Int}{z:Int}
structure eG (h0:Nat)(h:Heap)(el:TypeId)(a:Option Addr)(len cap:Nat)(xs:List Int):Prop where
 ln:len=xs.length
 ok:(a=none/\len=0/\cap=0)\/∃g cur,a=some ⟨g,0,none⟩/\h0<=g/\h[g]? =some (.cells cur el (0,0))/\cap<=cur.size/\len<=cap/\cur.toList.take len=ints xs
theorem eG.nil (h0:Nat)(h:Heap)(el:TypeId):eG h0 h el none 0 0 []:=⟨rfl,.inl ⟨rfl,rfl,rfl⟩⟩
theorem eG.ints {cap:Nat}(O:eG h0 h el a len cap xs):eu h a len xs:=by
 refine⟨O.ln,?_⟩;rcases O.ok with⟨rfl,h1,_⟩|⟨g,cur,rfl,h1,h2,h3,h4,h5⟩
 .left;have:=O.ln;have:xs=[]:=List.length_eq_zero_iff.1 (by omega);simp[this,Eng.ints]
 .right;have hl:=O.ln;refine⟨g,0,cur,el,(0,0),rfl,h2,by rw[aR];omega,by rw[aR,List.drop_zero,<-hl];exact h5⟩
theorem eG.cap {cap:Nat}(O:eG h0 h el a len cap xs):len<=cap:=by
 rcases O.ok with⟨_,h1,h2⟩|⟨g,cur,_,_,_,_,h4,_⟩<;>omega
theorem eG.keep {cap:Nat}(O:eG h0 h el a len cap xs)(hk:∀p,a=some p->h'[p.block]? =h[p.block]?):eG h0 h' el a len cap xs:=by
 refine⟨O.ln,?_⟩;rcases O.ok with h1|⟨g,cur,rfl,h1,h2,h3⟩
 .exact .inl h1
 .exact .inr ⟨g,cur,rfl,h1,(hk _ rfl).trans h2,h3⟩
theorem eG.lt {cap:Nat}(O:eG h0 h el a len cap xs){p:Addr}(hp:a=some p):p.block<h.size/\h0<=p.block:=by
 rcases O.ok with⟨h1,_⟩|⟨g,cur,h1,h2,h3,h4⟩
 .rw[h1]at hp;cases hp
 .rw[h1]at hp;cases hp;exact⟨bA h3,h2⟩
theorem eG.ext {cap:Nat}(O:eG h0 h el a len cap xs)(x:Ext h h'):eG h0 h' el a len cap xs:=O.keep fun p hp=>x.old _ (O.lt hp).1
structure App (h h':Heap)(a a':Option Addr):Prop where
 size:h.size<=h'.size
 old:∀c,c<h.size->(∀p,a=some p->p.block≠c)->h'[c]? =h[c]?
 to:∀p,a'=some p->(∃q,a=some q/\q.block=p.block)\/h.size<=p.block
theorem App.ext {cap:Nat}(A:App h h' a a')(O:eG h0 h el a len cap xs){h1:Heap}(x:Ext h1 h)(hl:h1.size<=h0):Ext h1 h':=
 ⟨Nat.le_trans x.size A.size,fun c hc=>(A.old c (Nat.lt_of_lt_of_le hc x.size) fun p hp heq=>by have:=(O.lt hp).2;omega).trans (x.old c hc)⟩
theorem GH {w:World}{k:Nat}(H:eu w.heap b m ys)(hk:k<=m):(Builtin.firstCells 1 k (.slice b m c)).run P w= .ok ((Eng.ints ys).take k).toArray w:=by
 cases b with
 |none=>
  rcases H.row with h1|⟨g,off,cur,ct,fr,h1,_⟩
  .have:ys=[]:=by simpa[Eng.ints]using h1
   have hl:=H.len;rw[this]at hl;obtain rfl:k=0:=by simp at hl;omega
   simp[Builtin.firstCells]
  .cases h1
 |some a=>
  rcases H.row with h1|⟨g,off,cur,ct,fr,h1,h2,h3,h4⟩
  .have hy:ys=[]:=by simpa[Eng.ints]using h1
   have hl:=H.len;rw[hy]at hl;obtain rfl:k=0:=by simp at hl;omega
   have:=run_firstCells_some (P:=P) w 1 0 a m c [] (by simp) (by simp);simpa using this
  .cases h1;have hl:=H.len;refine run_firstCells_some w 1 k ⟨g,off,none⟩ m c _ (by rw[List.length_take,aR];omega) fun j u hu=> ?_
   rw[<-h4,List.getElem?_take]at hu;split at hu
   .rw[List.getElem?_take]at hu;split at hu
    .rw[List.getElem?_drop]at hu;exact Go.Run.vF h2 (by simpa using hu)
    .cases hu
   .cases hu
theorem Gl {ats:Array TypeId}(h1:ats[1]? =some t2)(hu:P.underlying t2=some (.slice e2))(H:eu h b m ys):Go.Run.Src P ats h 1 m (.slice b m c) (Eng.ints ys):=by
 have hl:=H.len;refine⟨⟨t2,_,h1,hu,.inl ⟨e2,rfl⟩⟩,fun w _=>by simp[Builtin.lenOf],fun w hw=> ?_,fun _ n hn w hw=> ?_⟩
 .subst hw;have:=GH (P:=P) (c:=c) H (Nat.le_refl m);rwa[List.take_of_length_le (by rw[aR];omega)]at this
 .subst hw;have:=GH (P:=P) (c:=c) H hn;rwa[Nat.mul_one]
theorem Jn {i:TypeInfo}(hu:P.underlying t=some (.slice el))(hu2:P.underlying t2=some (.slice e2))(hi:P.info? el=some i)(hsz:i.size=1)(hby:i.bytes<=8)(hz:i.zero=some (.int .i64 z)){cap:Nat}(hx:ev er x= .slice a len cap)(hy:ev er y= .slice b m c)(O:eG h0 h el a len cap xs)(h0h:h0<=h.size)(I:eu h b m ys)(hb:len+m<=100000)(H:∀a' cap' h',eG h0 h' el a' (len+m) cap' (xs++ys)->App h h' a a'->K (.slice a' (len+m) cap') h'):aI P (.call ⟨.builtin .append,#[x,y],#[t,t2]⟩) ty er h K:=by
 unfold aI;refine And.intro rfl fun w hw=> ?_
 subst hw;have hlen:(xs++ys).length=len+m:=by rw[List.length_append,<-O.ln,<-I.len]
 have hs:=Gl (P:=P) (ats:= #[t,t2]) (c:=c) rfl hu2 I;have hargs: #[x,y].map (ev er)= #[.slice a len cap,.slice b m c]:=by simp[hx,hy]
 have key:∀v w',(Builtin.append_ #[t,t2] ty #[.slice a len cap,.slice b m c]).run P w= .ok v w'->Rest w w'->K v w'.heap->
  dQ P w K ((execOp (ev er) {dst:=none,op:= .call ⟨.builtin .append,#[x,y],#[t,t2]⟩,type:=ty,pos:= "",after:= #[],guard:=none}).run P w):=by
  intro v w' h1 h2 h3;have:(execOp (ev er) {dst:=none,op:= .call ⟨.builtin .append,#[x,y],#[t,t2]⟩,type:=ty,pos:= "",after:= #[],guard:=none}).run P w= .ok (.value v) w':=by
   simp only[execOp,resolve,invoke,builtin,Sem.run_bind,Sem.run_pure,Result.andThen_ok,hargs,h1]
  rw[this];exact⟨h3,h2⟩
 have grow:cap<len+m->dQ P w K ((execOp (ev er) {dst:=none,op:= .call ⟨.builtin .append,#[x,y],#[t,t2]⟩,type:=ty,pos:= "",after:= #[],guard:=none}).run P w):=by
  intro hgr;have g1:=Go.Run.uy (P:=P) (ty:=ty) (ats:= #[t,t2]) (z:= .int .i64 z) (sLen:=len) (sCap:=cap) (b:=a) (olds:=Eng.ints xs) rfl hu hi hz w (by rw[hsz];exact hs)
   (fun w' hw'=>by
    have hI:=O.ints;rw[<-hw']at hI;have:=GH (P:=P) (c:=cap) hI (Nat.le_refl len);rw[List.take_of_length_le (by rw[aR,<-O.ln];omega)]at this;rw[hsz];exact this) hgr (by have:(len+m)*i.bytes<=100000*8:=Nat.mul_le_mul hb hby
                                                                                                                                                                        omega) (by omega)
  refine key _ _ g1 ⟨rfl,rfl,rfl⟩ (H _ _ _ ⟨hlen.symm,.inr ⟨w.heap.size,_,rfl,h0h,jD,?_,grownCap_ge w (len+m) cap el,?_⟩⟩ ⟨by simp,fun c hc _=> ?_,fun p hp=> ?_⟩)
  .have:=grownCap_ge w (len+m) cap el;have hzl:(Builtin.zeroCells (Value.int .i64 z).cells (grownCap w (len+m) cap el-(len+m))).size=grownCap w (len+m) cap el-(len+m):=by
    simp[Builtin.zeroCells,Value.cells]
   simp only[List.size_toArray,List.length_append,aR,Array.length_toList,hzl,<-O.ln,<-I.len];omega
  .rw[List.toList_toArray,List.append_assoc,<-List.append_assoc,List.take_append_of_le_length]
   .rw[List.take_of_length_le]
    .simp[Eng.ints]
    .rw[List.length_append,aR,aR,<-O.ln,<-I.len];omega
   .rw[List.length_append,aR,aR,<-O.ln,<-I.len];omega
  .show(w.heap.push _)[c]? =_;rw[uo,if_neg (by omega)]
  .cases hp;exact .inr (Nat.le_refl _)
 rcases O.ok with⟨rfl,rfl,rfl⟩|⟨g,cur,rfl,q1,q2,q3,q4,q5⟩
 .by_cases hm:m=0
  .subst hm;have hy0:ys=[]:=List.length_eq_zero_iff.1 I.len.symm;have hx0:xs=[]:=List.length_eq_zero_iff.1 O.ln.symm;have g1:=Go.Run.zZ (P:=P) (ty:=ty) (ats:= #[t,t2]) rfl hu hi w (x:= .slice b 0 c) (news:=Eng.ints ys) (by rw[hsz];exact hs);exact key _ _ g1 (Rest.refl w) (H none 0 w.heap ⟨by rw[hx0,hy0];rfl,.inl ⟨rfl,rfl,rfl⟩⟩ ⟨Nat.le_refl _,fun _ _ _=>rfl,fun p hp=>by cases hp⟩)
  .exact grow (by omega)
 .by_cases hr:len+m<=cap
  .have g1:=Go.Run.oq (P:=P) (ty:=ty) (ats:= #[t,t2]) (sLen:=len) (sCap:=cap) (off:=0) rfl hu hi w (by rw[hsz];exact hs) q2 (fun u hu=>by
    simp only[Eng.ints,List.mem_map]at hu;obtain⟨_,_,rfl⟩:=hu;rfl) hr (by rw[hsz,aR,<-I.len];omega)
   have hheap:(w.setRow g (splice cur.toList (0+len*i.size) (Eng.ints ys)).toArray).heap[g]? =some (.cells (splice cur.toList (0+len*i.size) (Eng.ints ys)).toArray el (0,0)):=by
    have hlt:=bA q2;have hv:=(Array.getElem?_eq_some_iff.1 q2).2;simp[World.setRow,Array.getElem_modify,hlt,hv]
   refine key _ _ g1 ⟨rfl,rfl,rfl⟩ (H _ _ _ ⟨hlen.symm,.inr ⟨g,_,rfl,q1,hheap,?_,hr,?_⟩⟩ ⟨by simp[World.setRow],fun c hc hne=> ?_,fun p hp=> .inl ⟨p,hp,rfl⟩⟩)
   .simp[splice,hsz,aR,<-I.len];omega
   .rw[List.toList_toArray,hsz,Nat.zero_add,Nat.mul_one,splice,q5];rw[List.take_append_of_le_length (by rw[List.length_append,aR,aR,<-O.ln,<-I.len];omega),List.take_of_length_le (by rw[List.length_append,aR,aR,<-O.ln,<-I.len];omega)];simp[Eng.ints]
   .have:g≠c:=hne _ rfl;simp[World.setRow,Array.getElem?_modify,this]
  .exact grow (by omega)
theorem WW (hu:P.underlying t=some (.slice el))(hu2:P.underlying t2=some (.slice e2))(hi:(P.info? el).isSome=true)(hsz:szT P el=1)(hby:iA P el<=8)(hz:dJ P el=some (.int .i64 z)){cap:Nat}(hx:ev er x= .slice a len cap)(hy:ev er y= .slice b m c)(O:eG h0 h el a len cap xs)(h0h:h0<=h.size)(I:eu h b m ys)(hb:len+m<=100000)(H:∀a' cap' h',eG h0 h' el a' (len+m) cap' (xs++ys)->App h h' a a'->K (.slice a' (len+m) cap') h'):aI P (.call ⟨.builtin .append,#[x,y],#[t,t2]⟩) ty er h K:=by
 obtain⟨i,hi⟩:=Option.isSome_iff_exists.1 hi;refine Jn hu hu2 hi (by simpa[szT,hi]using hsz) (by simpa[iA,hi]using hby) (z:=z) (by simpa[dJ,hi]using hz) hx hy O h0h I hb H
def GM (m:Nat)(h':Heap)(el:TypeId)(v:Value)(xs:List Int):Prop:=∃a cap,v= .slice a xs.length cap/\eG m h' el a xs.length cap xs
theorem App.upd {h:Heap}{cap:Nat}{o:Obj}(A:App h h' a a')(O:eG m h el a len cap xs)(hc:h[c]? =some o)(hm:c<m):h'[c]? =some o:=
 (A.old c (bA hc) fun p hp=>by have:=(O.lt hp).2;omega).trans hc
theorem App.extN {h h1:Heap}{cap:Nat}(A:App h h' a a')(O:eG m h el a len cap xs)(x:Ext h1 h)(hm:h1.size<=m):Ext h1 h':=
 ⟨Nat.le_trans x.size A.size,fun c hc=>(A.old c (Nat.lt_of_lt_of_le hc x.size) fun p hp=>by have:=(O.lt hp).2;omega).trans (x.old c hc)⟩
theorem eG.upd {cap b:Nat}{h:Heap}(O:eG m h el a len cap xs)(u:Upd h h' b)(hb:b<m):eG m h' el a len cap xs:=
 O.keep fun p hp=>u.old _ (by have:=(O.lt hp).2;omega)
theorem eG.mono {cap m':Nat}{h:Heap}(O:eG m h el a len cap xs)(hm:m'<=m):eG m' h el a len cap xs:=by
 refine⟨O.ln,?_⟩;rcases O.ok with h1|⟨g,cur,h1,h2,h3⟩
 .exact .inl h1
 .exact .inr ⟨g,cur,h1,by omega,h3⟩
theorem GM.mono {m':Nat}(N:GM m h' el v xs)(hm:m'<=m):GM m' h' el v xs:=by
 obtain⟨a,cap,h1,h2⟩:=N;exact⟨a,cap,h1,h2.mono hm⟩
theorem GM.upd {b:Nat}{h:Heap}(N:GM m h el v xs)(u:Upd h h' b)(hb:b<m):GM m h' el v xs:=by
 obtain⟨a,cap,h1,h2⟩:=N;exact⟨a,cap,h1,h2.upd u hb⟩
theorem GM.ext {h:Heap}(N:GM m h el v xs)(x:Ext h h'):GM m h' el v xs:=by
 obtain⟨a,cap,h1,h2⟩:=N;exact⟨a,cap,h1,h2.ext x⟩
theorem setRow_heap {w:World}{cur:Array Value}{fr:Nat×Nat}(q:w.heap[g]? =some (.cells cur ct fr))(l:List Value):(w.setRow g l.toArray).heap[g]? =some (.cells l.toArray ct fr)/\Upd w.heap (w.setRow g l.toArray).heap g:=by
 have hlt:=bA q;have hv:=(Array.getElem?_eq_some_iff.1 q).2;refine⟨by simp[World.setRow,Array.getElem_modify,hlt,hv],by simp[World.setRow],fun b hb=> ?_⟩;simp[World.setRow,Array.getElem?_modify,Ne.symm hb]
theorem Xl (hu:P.underlying t=some (.slice el))(hz:dJ P el=some (.int .i64 z)){off:Nat}{cur:List Value}(hx:ev er x= .slice (some ⟨g,off,none⟩) n c)(hb:h[g]? =some (.cells cur.toArray ct (0,0)))(hl:off+n<=cur.length)(H:∀h',h'[g]? =some (.cells (splice cur off (List.replicate n (.int .i64 z))).toArray ct (0,0))->Upd h h' g->K (.tuple #[]) h'):aI P (.call ⟨.builtin .clear,#[x],#[t]⟩) ty er h K:=by
 unfold aI;refine And.intro rfl fun w hw=> ?_
 subst hw;have hi:∃i,P.info? el=some i/\i.zero=some (.int .i64 z):=by
  unfold dJ at hz;cases hq:P.info? el with
  |none=>simp[hq]at hz
  |some i=>exact⟨i,rfl,by simpa[hq]using hz⟩
 obtain⟨i,hi,hz⟩:=hi;have key:∀w',(Builtin.clear_ #[t] ty #[.slice (some ⟨g,off,none⟩) n c]).run P w= .ok (.tuple #[]) w'->Rest w w'->K (.tuple #[]) w'.heap->
  dQ P w K ((execOp (ev er) {dst:=none,op:= .call ⟨.builtin .clear,#[x],#[t]⟩,type:=ty,pos:= "",after:= #[],guard:=none}).run P w):=by
  intro w' h1 h2 h3;have:(execOp (ev er) {dst:=none,op:= .call ⟨.builtin .clear,#[x],#[t]⟩,type:=ty,pos:= "",after:= #[],guard:=none}).run P w= .ok (.value (.tuple #[])) w':=by
   have hargs: #[x].map (ev er)= #[.slice (some ⟨g,off,none⟩) n c]:=by simp[hx]
   simp only[execOp,resolve,invoke,builtin,Sem.run_bind,Sem.run_pure,Result.andThen_ok,hargs,h1]
  rw[this];exact⟨h3,h2⟩
 cases n with
 |zero=>
  refine key w (by simp[Builtin.clear_,run_underlying hu]) (Rest.refl w) ?_;refine H _ ?_ ⟨rfl,fun _ _=>rfl⟩;rw[hb];simp[splice]
 |succ n=>
  have hst:=run_storeCells_at P g off ct (List.replicate (n+1) (Value.int .i64 z)) 0 cur.toArray w hb (by simpa using hl) (fun x hx=>by rw[List.eq_of_mem_replicate hx];rfl);simp only[Nat.add_zero,List.length_replicate]at hst;have e3:(Builtin.zeroCells (Value.int .i64 z).cells (n+1)).toList=List.replicate (n+1) (Value.int .i64 z):=by
   unfold Builtin.zeroCells;rw[pW];simp[Value.cells]
  refine key (w.setRow g (splice cur off (List.replicate (n+1) (.int .i64 z))).toArray) ?_ ⟨rfl,rfl,rfl⟩ ?_
  rotate_left
  .have e4:cur.toArray.toList.take off++List.replicate (n+1) (Value.int .i64 z)++cur.toArray.toList.drop (off+(n+1))=splice cur off (List.replicate (n+1) (.int .i64 z)):=by simp[splice]
   exact H (w.setRow g (splice cur off (List.replicate (n+1) (.int .i64 z))).toArray).heap (setRow_heap hb _).1 (setRow_heap hb _).2
  .have e4:cur.toArray.toList.take off++List.replicate (n+1) (Value.int .i64 z)++cur.toArray.toList.drop (off+(n+1))=splice cur off (List.replicate (n+1) (.int .i64 z)):=by simp[splice]
   rw[e4]at hst;simp only[Builtin.clear_,Sem.run_bind,run_underlying hu];have hzv:(zeroValue el).run P w= .ok (.int .i64 z) w:=by simp[zeroValue,typeInfo,hi,hz]
   simp[run_underlying hu,hzv,e3,hst]
theorem Y9 (hu:P.underlying t=some (.slice el))(hu2:P.underlying t2=some (.slice e2))(hi:(P.info? el).isSome=true)(hsz:szT P el=1){off c2:Nat}{cur:List Value}(hx:ev er x= .slice (some ⟨g,off,none⟩) n c)(hy:ev er y= .slice b m c2)(hb:h[g]? =some (.cells cur.toArray ct (0,0)))(hl:off+n<=cur.length)(I:eu h b m ys)(H:∀h',h'[g]? =some (.cells (splice cur off (ints (ys.take n))).toArray ct (0,0))->Upd h h' g->K (.int .i64 (min m n:Nat)) h'):aI P (.call ⟨.builtin .copy,#[x,y],#[t,t2]⟩) ty er h K:=by
 unfold aI;refine And.intro rfl fun w hw=> ?_
 subst hw;obtain⟨i,hi⟩:=Option.isSome_iff_exists.1 hi;have hsz:i.size=1:=by simpa[szT,hi]using hsz
 have hml:=I.len;have hf:=GH (P:=P) (w:=w) (c:=c2) (k:=min m n) I (Nat.min_le_left _ _);have et:(ints ys).take (min m n)=ints (ys.take n):=by
  simp only[ints,List.map_take];rw[List.take_eq_take_iff];simp;omega
 rw[et]at hf;have hlen:(ints (ys.take n)).length=min m n:=by rw[aR,List.length_take];omega
 have hst:=run_storeCells_at P g off ct (ints (ys.take n)) 0 cur.toArray w hb (by rw[hlen];simp;omega) (fun x hx=>by simp only[ints,List.mem_map]at hx;obtain⟨_,_,rfl⟩:=hx;rfl);simp only[Nat.add_zero]at hst;have e4:cur.toArray.toList.take off++ints (ys.take n)++cur.toArray.toList.drop (off+(ints (ys.take n)).length)=splice cur off (ints (ys.take n)):=by simp[splice]
 rw[e4]at hst;have h1:(Builtin.copy_ #[t,t2] ty #[.slice (some ⟨g,off,none⟩) n c,.slice b m c2]).run P w= .ok (.int .i64 (min m n:Nat)) (w.setRow g (splice cur off (ints (ys.take n))).toArray):=by
  have e5:Nat.min m n=min m n:=rfl;simp only[Builtin.copy_,Sem.run_bind,run_underlying hu,sizeOf,typeInfo];simp[run_underlying hu,hi,hsz,Builtin.lenOf,e5,hf,hst,goInt]
 have hargs: #[x,y].map (ev er)= #[.slice (some ⟨g,off,none⟩) n c,.slice b m c2]:=by simp[hx,hy]
 have:(execOp (ev er) {dst:=none,op:= .call ⟨.builtin .copy,#[x,y],#[t,t2]⟩,type:=ty,pos:= "",after:= #[],guard:=none}).run P w= .ok (.value (.int .i64 (min m n:Nat))) (w.setRow g (splice cur off (ints (ys.take n))).toArray):=by
  simp only[execOp,resolve,invoke,builtin,Sem.run_bind,Sem.run_pure,Result.andThen_ok,hargs,h1]
 rw[this];exact⟨H _ (setRow_heap hb _).1 (setRow_heap hb _).2,rfl,rfl,rfl⟩
theorem eG.block {cap:Nat}{h:Heap}(O:eG m h el a len cap xs)(hn:0<len):∃g tl,a=some ⟨g,0,none⟩/\m<=g/\h[g]? =some (.cells (Eng.ints xs++tl).toArray el (0,0))/\cap<=len+tl.length/\len<=cap/\len=xs.length:=by
 rcases O.ok with⟨_,h1,_⟩|⟨g,cur,rfl,h1,h2,h3,h4,h5⟩
 .omega
 .refine⟨g,cur.toList.drop len,rfl,h1,?_,by simp;omega,h4,O.ln⟩;rw[h2,<-h5,List.take_append_drop]
theorem eG.of_block {cap:Nat}{tl:List Value}{h:Heap}(hg:m<=g)(hb:h[g]? =some (.cells (Eng.ints xs++tl).toArray el (0,0)))(hc:cap<=xs.length+tl.length)(hc2:xs.length<=cap):eG m h el (some ⟨g,0,none⟩) xs.length cap xs:=
 ⟨rfl,.inr ⟨g,_,rfl,hg,hb,by simp[aR];omega,hc2,by simp[aR]⟩⟩
theorem zBW {z:Option Value}{pl:Nat->Option (Nat×Nat)}{parts:List (Nat×Value)}{F:Prop}:Ci false z pl parts h K F=F:=by simp only[Ci]
theorem XT {z:List Value}(hu:P.underlying t=some (.array n el))(hi:(P.info? el).isSome=true)(hz:dJ P t=some (.agg z.toArray))(H:K (.agg z.toArray) h):aI P (.build t #[]) ty er h K:=by
 obtain⟨i,hi⟩:=Option.isSome_iff_exists.1 hi;refine aK rfl _ H fun w _=> ?_
 have hz':(zeroValue t).run P w= .ok (.agg z.toArray) w:=by
  unfold dJ at hz;cases hj:P.info? t with
  |none=>simp[hj]at hz
  |some i=>simp only[hj,Option.bind_some]at hz;simp[zeroValue,typeInfo,hj,hz]
 simp only[execOp,Instr.build,Sem.run_bind,hz',Result.andThen_ok,run_underlying hu];simp[sizeOf,typeInfo,hi,Value.cells,Instr.fill]
end
section eqs
open Go.Run
theorem FP {ι:Io}:∀xs:List Int,VL ι (xs.map (T.int .i64)) (Eng.ints xs)
 |[]=>by simp[Eng.ints,VL]
 |x::xs=>by
  have:=FP (ι:=ι) xs;simp only[Eng.ints,List.map_cons,VL,VR]at this ⊢;exact⟨_,_,rfl,rfl,this⟩
theorem EP:∀(xs ys:List Int),xs.length=ys.length->gZ (List.replicate xs.length .i) (xs.map (T.int .i64)) (ys.map (T.int .i64))=some (decide (xs=ys))
 |[],[],_=>rfl
 |x::xs,y::ys,h=>by
  have h1:=EP xs ys (by simpa using h);have hk:Ir .i64 .i64=true:=rfl;simp only[List.length_cons,List.replicate_succ,List.map_cons,gZ,ry,hk];by_cases hxy:x=y
  .have hb:yF x y=true:=by rw[<-za];simpa using hxy
   rw[hb,h1];simp[hxy]
  .have hb:yF x y=false:=by rw[<-za];simpa using hxy
   rw[hb];simp[hxy]
theorem ZT {p:Pr}(ok:Ok P p){u yt:TypeId}{ti:TI}(hti:p.ty u=some ti){a b:T}{v w:Value}{r:Bool}(hv:VR (fun _=>none) a v)(hw:VR (fun _=>none) b w)(he:mG ti a b=some r){op:BinOp}(ho:op= .eql\/op= .neq)
 {x y:Operand} (hx:ev er x=v) (hy:ev er y=w) {K:Value->Heap->Prop} (H:K (.bool (if op= .eql then r else !r)) h):aI P (.binOp op u x y yt) ty er h K:=by
 refine aK rfl _ H fun W hW=> ?_
 obtain⟨h1,⟨c,d,rfl,rfl⟩,hg,_⟩:=jW (ok.tf hti) hv hw he W;have:(do eqGuard op u x y (.agg c) (.agg d);Go.binOp op u (.agg c) (.agg d):Sem Value).run P W= .ok (.bool (if op= .eql then r else !r)) W:=by
  rcases ho with rfl|rfl<;>simp[eqGuard,hg,Go.binOp,h1]
 simp only[execOp,Sem.run_bind,hx,hy]at this ⊢;rw[this];rfl
theorem zBa {p:Pr}(ok:Ok P p){u yt:TypeId}{ti:TI}(hti:p.ty u=some ti){xs ys:List Int}(hl:xs.length=ys.length)(h0:0<xs.length)(hfl:ti.fl=List.replicate xs.length .i)
 {x y:Operand} (hx:ev er x= .agg (Eng.ints xs).toArray) (hy:ev er y= .agg (Eng.ints ys).toArray) {K:Value->Heap->Prop} (H:K (.bool (decide (xs=ys))) h):aI P (.binOp .eql u x y yt) ty er h K:=by
 refine ZT ok hti (a:= .agg (xs.map (T.int .i64))) (b:= .agg (ys.map (T.int .i64))) (r:=decide (xs=ys)) ?_ ?_ ?_ (.inl rfl) hx hy (by simpa using H)
 .simp only[VR];exact⟨_,rfl,by simpa using FP xs⟩
 .simp only[VR];exact⟨_,rfl,by simpa using FP ys⟩
 .have:=EP xs ys hl;unfold mG;rw[hfl];cases hx:xs.length with
  |zero=>omega
  |succ n=>rw[hx]at this;simpa[List.replicate_succ]using this
end eqs
section
variable {a b:Option Addr}{cb:Nat}{el el2:TypeId}{h':Heap}{lb len m mb:Nat}{xs ys:List Int}
theorem XU {n c lo hi:Nat}(I:eu h a n xs)(h1:lo<=hi)(h2:hi<=n)(h3:n<=c):eu h (if(c:Int)=(lo:Int)then a else lg a lo) (hi-lo) ((xs.drop lo).take (hi-lo)):=by
 have hl:=I.len;refine⟨by simp;omega,?_⟩;split
 .rename_i he;have:hi-lo=0:=by omega
  rw[this];exact .inl (by simp[Eng.ints])
 .have:=I.row.sub lo (hi-lo) (by rw[aR];omega);rwa[show((Eng.ints xs).drop lo).take (hi-lo)=Eng.ints ((xs.drop lo).take (hi-lo)) by simp[Eng.ints,List.map_take,List.map_drop]]at this
theorem eG.cut {cap:Nat}(O:eG m h el a len cap xs):eG m h el a len len xs:=by
 refine⟨O.ln,?_⟩;rcases O.ok with⟨h1,h2,h3⟩|⟨g,cur,h1,h2,h3,h4,h5,h6⟩
 .exact .inl ⟨h1,h2,h2⟩
 .exact .inr ⟨g,cur,h1,h2,h3,by omega,Nat.le_refl _,h6⟩
def Apart (a b:Option Addr):Prop:=∀p q,a=some p->b=some q->p.block≠q.block
theorem Apart.zAE:Apart none b:=fun p q hp=>by cases hp
theorem Apart.Xu:Apart a none:=fun p q _ hq=>by cases hq
theorem Apart.symm (H:Apart a b):Apart b a:=fun p q hp hq he=>H q p hq hp he.symm
theorem eG.beside {el:TypeId}{a':Option Addr}{len cap m:Nat}{xs:List Int}{h:Heap}(B:eG mb h el2 b lb cb ys)(A:App h h' a a')(hne:Apart a b):eG mb h' el2 b lb cb ys:=
 B.keep fun q hq=>A.old _ (B.lt hq).1 fun p hp=>hne p q hp hq
theorem Apart.app {a':Option Addr}{h:Heap}(hne:Apart a b)(A:App h h' a a')(B:eG mb h el2 b lb cb ys):Apart a' b:=by
 intro p q hp hq;have:=(B.lt hq).1;rcases A.to p hp with⟨r,hr,he⟩|h1
 .rw[<-he];exact hne r q hr hq
 .omega
theorem eG.apart {cap:Nat}{h:Heap}(O:eG m h el a len cap xs)(B:eG mb h' el2 b lb cb ys)(hm:h.size<=mb):Apart a b:=by
 intro p q hp hq;have:=(O.lt hp).1;have:=(B.lt hq).2;omega
theorem eG.take {cap:Nat}(O:eG m h el a len cap xs){k:Nat}(hk:k<=len):eG m h el a k cap (xs.take k):=by
 refine⟨by have:=O.ln;simp;omega,?_⟩;rcases O.ok with⟨h1,h2,h3⟩|⟨g,cur,h1,h2,h3,h4,h5,h6⟩
 .exact .inl ⟨h1,by omega,h3⟩
 .refine .inr ⟨g,cur,h1,h2,h3,h4,by omega,?_⟩;have:(cur.toList.take len).take k=(Eng.ints xs).take k:=by rw[h6]
  rw[List.take_take,show min k len=k by omega]at this;rw[this];simp[Eng.ints,List.map_take]
theorem Va {t t2 e2:TypeId}(hu:P.underlying t=some (.slice el))(hu2:P.underlying t2=some (.slice e2))(hi:(P.info? el).isSome=true)(hsz:szT P el=1){x y:Operand}{g cap c m0:Nat}{K:Value->Heap->Prop}(hx:ev er x= .slice (some ⟨g,0,none⟩) len cap)(hy:ev er y= .slice b m c)(O:eG m0 h el (some ⟨g,0,none⟩) len cap xs)(I:eu h b m ys)(hr:len+m<=cap)(H:∀h',eG m0 h' el (some ⟨g,0,none⟩) (len+m) cap (xs++ys)->Upd h h' g->K (.slice (some ⟨g,0,none⟩) (len+m) cap) h'):aI P (.call ⟨.builtin .append,#[x,y],#[t,t2]⟩) ty er h K:=by
 obtain⟨i,hi⟩:=Option.isSome_iff_exists.1 hi;have hsz:i.size=1:=by simpa[szT,hi]using hsz
 unfold aI;refine And.intro rfl fun w hw=> ?_
 subst hw;have hlen:(xs++ys).length=len+m:=by rw[List.length_append,<-O.ln,<-I.len]
 have hs:=Gl (P:=P) (ats:= #[t,t2]) (c:=c) rfl hu2 I;have hargs: #[x,y].map (ev er)= #[.slice (some ⟨g,0,none⟩) len cap,.slice b m c]:=by simp[hx,hy]
 rcases O.ok with⟨h1,_⟩|⟨g2,cur,h1,q1,q2,q3,q4,q5⟩
 .cases h1
 cases h1;have g1:=Go.Run.oq (P:=P) (ty:=ty) (ats:= #[t,t2]) (sLen:=len) (sCap:=cap) (off:=0) rfl hu hi w (by rw[hsz];exact hs) q2 (fun u hu=>by
  simp only[Eng.ints,List.mem_map]at hu;obtain⟨_,_,rfl⟩:=hu;rfl) hr (by rw[hsz,Eng.aR,<-I.len];omega)
 have:(execOp (ev er) {dst:=none,op:= .call ⟨.builtin .append,#[x,y],#[t,t2]⟩,type:=ty,pos:= "",after:= #[],guard:=none}).run P w= .ok (.value (.slice (some ⟨g,0,none⟩) (len+m) cap)) (w.setRow g (splice cur.toList (0+len*i.size) (Eng.ints ys)).toArray):=by
  simp only[execOp,resolve,invoke,builtin,Sem.run_bind,Sem.run_pure,Result.andThen_ok,hargs,g1]
 rw[this];refine⟨H _ ⟨hlen.symm,.inr ⟨g,_,rfl,q1,(setRow_heap q2 _).1,?_,hr,?_⟩⟩ (setRow_heap q2 _).2,rfl,rfl,rfl⟩
 .simp[splice,hsz,Eng.aR,<-I.len];omega
 .rw[List.toList_toArray,hsz,Nat.zero_add,Nat.mul_one,splice,q5];rw[List.take_append_of_le_length (by rw[List.length_append,Eng.aR,Eng.aR,<-O.ln,<-I.len];omega),List.take_of_length_le (by rw[List.length_append,Eng.aR,Eng.aR,<-O.ln,<-I.len];omega)];simp[Eng.ints]
theorem eG.tail {cap g off:Nat}{vs:List Value}{cur:List Value}{h:Heap}(O:eG m h el (some ⟨g,0,none⟩) len cap xs)(hb:h[g]? =some (.cells cur.toArray el (0,0)))(hb':h'[g]? =some (.cells (splice cur off vs).toArray el (0,0)))(ho:len<=off)(hl:off+vs.length<=cur.length):eG m h' el (some ⟨g,0,none⟩) len cap xs:=by
 rcases O.ok with⟨h1,_⟩|⟨g2,cur2,h1,q1,q2,q3,q4,q5⟩
 .cases h1
 cases h1;rw[hb]at q2;cases q2;refine⟨O.ln,.inr ⟨g,_,rfl,q1,hb',by simp[splice]at q3 ⊢;omega,q4,?_⟩⟩;rw[<-q5];simp only[splice,List.append_assoc];rw[List.take_append_of_le_length (by rw[List.length_take];omega),List.take_take];congr 1;omega
end
section bools
open Go.Run
section
variable {K:Value->Heap->Prop}{a b:Bool}{u:TypeId}{x y:Operand}{yt:TypeId}
theorem zu {yt:TypeId}(hu:P.underlying u=some .bool)(hx:ev er x= .bool a)(hy:ev er y= .bool b){op:BinOp}(ho:op= .eql\/op= .neq)(w:World):
 (execOp (ev er) {dst:=none,op:= .binOp op u x y yt,type:=ty,pos:= "",after:= #[],guard:=none}).run P w= .ok (.value (.bool (if op= .eql then a==b else !(a==b)))) w:=by
 have h1:=PQ hu a b w;have:(do eqGuard op u x y (.bool a) (.bool b);Go.binOp op u (.bool a) (.bool b):Sem Value).run P w= .ok (.bool (if op= .eql then a==b else !(a==b))) w:=by
  rcases ho with rfl|rfl<;>simp[eqGuard,Go.binOp,h1]
 simp only[execOp,Sem.run_bind,hx,hy]at this ⊢;rw[this];rfl
theorem zB6 (hu:P.underlying u=some .bool)(hx:ev er x= .bool a)(hy:ev er y= .bool b)(H:K (.bool (a==b)) h):aI P (.binOp .eql u x y yt) ty er h K:=
 aK rfl _ H fun w _=>zu hu hx hy (.inl rfl) w
theorem zBT {R:Heap->Heap->Prop}(hS:Sta R)(hu:P.underlying u=some .bool)(hx:ev er x= .bool a)(hy:ev er y= .bool b)(H:K (.bool (a==b)) h):iP P R (.binOp .eql u x y yt) ty er h K:=
 gT hS rfl _ H fun w=>zu hu hx hy (.inl rfl) w
theorem zBf (hu:P.underlying u=some .bool)(hx:ev er x= .bool a)(hy:ev er y= .bool b)(H:K (.bool (!(a==b))) h):aI P (.binOp .neq u x y yt) ty er h K:=
 aK rfl _ H fun w _=>zu hu hx hy (.inr rfl) w
theorem zBj {R:Heap->Heap->Prop}(hS:Sta R)(hu:P.underlying u=some .bool)(hx:ev er x= .bool a)(hy:ev er y= .bool b)(H:K (.bool (!(a==b))) h):iP P R (.binOp .neq u x y yt) ty er h K:=
 gT hS rfl _ H fun w=>zu hu hx hy (.inr rfl) w
end
end bools
end apps
end Go.Eng
