/- The engine: ranges over functions, their rounds, and scopes. No condition. -/
import Derived.Test.YtljjlhbbcjjmlaaGreatDoorEng
import Derived.RangeFuncIn
import Derived.LoopNIn
import Derived.ProofKit
set_option linter.unusedVariables false
set_option linter.unusedSimpArgs false
namespace Go.Eng
open Go
section yields
variable {P:Program}{l:Option Nat}{h:Heap}{e:Env}{d:List Deferred}{k:aj}
section
variable {Br:Code->Heap->Prop}{K:Value->Heap->Prop}{a b c:Code}{caps:Array Value}{f:Operand}{first:Array Value}{lo:Nat}{o:Obj}{ps:Array Tmp}{r:Nat}{rec:Loop}{rs:List ResultVar}{v:Value}{vs:List Value}{w:World}
def Aw (P:Program)(v:Value)(vs:List Value)(h:Heap)(K:Value->Heap->Prop):Prop:=
 ∀(er:Env) (f:Operand) (xs:Array Operand) (ats:Array TypeId) (ty:TypeId),ev er f=v->(xs.map (ev er)).toList=vs->aI P (.call ⟨.value f,xs,ats⟩) ty er h K
theorem Aw.run {K':Value->Heap->Prop}(H:Aw P v vs h K){er:Env}{xs:Array Operand}{ats:Array TypeId}{ty:TypeId}(hf:ev er f=v)(hx:(xs.map (ev er)).toList=vs)(hk:∀v h,K v h->K' v h):aI P (.call ⟨.value f,xs,ats⟩) ty er h K':=bH hk (H er f xs ats ty hf hx)
theorem Aw.run1 {u:Value}{K':Value->Heap->Prop}(H:Aw P v [u] h K){er:Env}{x:Operand}{ats:Array TypeId}{ty:TypeId}(hf:ev er f=v)(hx:ev er x=u)(hk:∀v h,K v h->K' v h):aI P (.call ⟨.value f,#[x],ats⟩) ty er h K':=bH hk (H er f #[x] ats ty hf (by simp[hx]))
theorem Xg {args:Array Value}{F:Prop}:qB P (.func (.yield lo) first caps) args h K F=F:=by unfold qB;rfl
theorem kN (hr:w.heap[r]? =some (.loop rec)):(Instr.getLoop r).run P w= .ok rec w:=by
 simp[Instr.getLoop,getObj,Sem.run,hr,Result.andThen]
theorem ow (hr:w.heap[r]? =some (.loop rec))(o:Obj):(setObj r o).run P w= .ok () {w with heap:=w.heap.setIfInBounds r o}:=by
 simp[setObj,Sem.run,hr]
theorem Mo (hr:w.heap[r]? =some (.loop rec)){args:Array Value}(hs:args.size=rec.params.size):
 (Instr.yield r args).run P w= .ok (.round r rec.fn ((rec.params.zip args).foldl (fun tmps (x:Tmp×Value)=>tmps.setIfInBounds x.1 x.2) rec.tmps) rec.assign rec.body) w:=by
 simp[Instr.yield,kN hr,Result.andThen,hs]
theorem Mk (hr:w.heap[r]? =some (.loop rec))(hs:rec.state= .ready):
 (Instr.beginRound r).run P w= .ok () {w with heap:=w.heap.setIfInBounds r (.loop {rec with state:= .busy})}:=by
 simp[Instr.beginRound,kN hr,ow hr,Result.andThen,hs]
theorem uT (hr:w.heap[r]? =some (.loop rec))(j:Option Code):
 (Instr.endRound r j).run P w= .ok (.bool j.isNone) {w with heap:=w.heap.setIfInBounds r (.loop {rec with state:=if j.isNone then .ready else .done,pending:=j})}:=by
 simp[Instr.endRound,kN hr,ow hr,Result.andThen]
theorem FM (hr:w.heap[r]? =some (.loop rec))(hs:rec.state≠.busy):
 (Instr.endLoop r).run P w= .ok rec.pending {w with heap:=w.heap.setIfInBounds r (.loop {rec with state:= .exhausted})}:=by
 have:(rec.state==LoopState.busy)=false:=by cases hst:rec.state<;>first|rfl|exact absurd hst hs
 simp[Instr.endLoop,kN hr,ow hr,Result.andThen,this];intro hh;exact absurd hh hs
theorem Bv:∀(l:List (Tmp×Value)) (a:Array Value),(l.foldl (fun tmps (x:Tmp×Value)=>tmps.setIfInBounds x.1 x.2) a).toList=l.foldl (fun er (x:Tmp×Value)=>er.set x.1 x.2) a.toList
 |[],a=>rfl
 |x::l,a=>by
  simp only[List.foldl_cons];rw[Bv l];simp
theorem Lu {fn:FuncId}{tmps:Array Value}:(Instr.enterLoop fn tmps ps a b none).run P w= .ok (w.heap.size+1,[{target:= .collected w.heap.size,args:= #[]}])
 {w with heap:=(w.heap.push (.deferred (some []))).push (.loop {state:= .ready,pending:=none,fn,tmps,params:=ps,assign:=a,body:=b,defers:=w.heap.size})}:=by
 simp[Instr.enterLoop,newObj,Sem.run,Result.andThen];exact⟨rfl,rfl,rfl⟩
def binds:List Tmp->List Value->Env->Env
 |p::ps,v::vs,e=>binds ps vs (e.set p v)
 |_,_,e=>e
theorem YV {p:Tmp}{ps:List Tmp}{e:Env}:binds (p::ps) (v::vs) e=binds ps vs (e.set p v):=eqi rfl
theorem Zi {e:Env}:binds [] vs e=e:=by simp[binds]
theorem Gx:∀(ps:List Tmp) (vs:List Value) (e:Env),binds ps vs e=(ps.zip vs).foldl (fun er (x:Tmp×Value)=>er.set x.1 x.2) e
 |[],vs,e=>by simp[binds]
 |p::ps,[],e=>by simp[binds]
 |p::ps,v::vs,e=>by simp[binds,Gx ps vs]
def zAs (lo:Nat)(K:Value->Heap->Prop):aj:=fun x _ _ h=>∃rec,h[lo]? =some (.loop rec)/\match x with
 | .normal=>K (.bool true) (h.setIfInBounds lo (.loop {rec with state:= .ready,pending:=none}))
 | .ret=>K (.bool false) (h.setIfInBounds lo (.loop {rec with state:= .done,pending:=some .ret}))
 | .exit i=>K (.bool false) (h.setIfInBounds lo (.loop {rec with state:= .done,pending:=some (.exit i)}))
 | .goto i=>K (.bool false) (h.setIfInBounds lo (.loop {rec with state:= .done,pending:=some (.goto i)}))
 |_=>False
def zAk (P:Program)(lo:Nat)(body:Code)(K:Value->Heap->Prop):aj:=fun x e d h=>x= .normal/\∃rec,h[lo]? =some (.loop rec)/\rec.state= .ready/\
 exec (some lo) P body (zAs lo K) e d (h.setIfInBounds lo (.loop {rec with state:= .busy}))
theorem yZ (hr:h[lo]? =some (.loop rec))(hsz:vs.length=rec.params.size)(H:exec (some lo) P rec.assign (zAk P lo rec.body K) (binds rec.params.toList vs rec.tmps.toList) [] h):Aw P (.func (.yield lo) #[] #[]) vs h K:=by
 intro er f xs ats ty hf hx;unfold aI;refine And.intro rfl fun w hw=> ?_
 subst hw;have hargs:xs.map (ev er)=vs.toArray:=by apply Array.toList_inj.1;simpa using hx
 have hrun:(execOp (ev er) {dst:=none,op:= .call ⟨.value f,xs,ats⟩,type:=ty,pos:= "",after:= #[],guard:=none}).run P w= .ok (.round lo rec.fn ((rec.params.zip vs.toArray).foldl (fun tmps (x:Tmp×Value)=>tmps.setIfInBounds x.1 x.2) rec.tmps) rec.assign rec.body) w:=by
  have:=Mo (P:=P) hr (args:=vs.toArray) (by simpa using hsz);simp only[execOp,resolve,hf,Deferred.ofValue,invoke,Sem.run_bind,Sem.run_pure,Result.andThen_ok,hargs,Array.empty_append,this]
 rw[hrun];refine⟨Eng.Rest.refl w,roundIn_of_wpIn trivial ?_⟩;have ha:=dI _ _ _ _ _ H;unfold WP at ha;have ha:=ha w rfl;have htm:(binds rec.params.toList vs rec.tmps.toList).toArray=((rec.params.zip vs.toArray).foldl (fun tmps (x:Tmp×Value)=>tmps.setIfInBounds x.1 x.2) rec.tmps):=by
  apply Array.toList_inj.1;rw[<-Array.foldl_toList,Bv,Gx];simp
 rw[<-htm];refine wpIn_mono ha ?_;rintro x1 a1 w1 ⟨⟨hx1,rec1,b1,b2,b3⟩,hr1⟩;subst hx1;refine⟨_,Mk (P:=P) b1 b2,?_⟩;have hb:=dI _ _ _ _ _ b3;unfold WP at hb;have hb:=hb {w1 with heap:=w1.heap.setIfInBounds lo (.loop {rec1 with state:= .busy})} rfl;rw[dA]at hb;refine wpIn_mono hb ?_;rintro x2 a2 w2 ⟨⟨rec2,c1,c2⟩,hr2⟩;have hrest:Eng.Rest w w2:=hr1.trans ⟨hr2.os,hr2.tape,hr2.output⟩;cases x2 with
 |normal=>exact⟨_,_,uT (P:=P) c1 none,_,rfl,c2,hrest.trans ⟨rfl,rfl,rfl⟩⟩
 |ret=>exact⟨_,_,uT (P:=P) c1 (some .ret),_,rfl,c2,hrest.trans ⟨rfl,rfl,rfl⟩⟩
 |exit i=>exact⟨_,_,uT (P:=P) c1 (some (.exit i)),_,rfl,c2,hrest.trans ⟨rfl,rfl,rfl⟩⟩
 |goto i=>exact⟨_,_,uT (P:=P) c1 (some (.goto i)),_,rfl,c2,hrest.trans ⟨rfl,rfl,rfl⟩⟩
 |_=>exact c2.elim
def mkD (r:Nat):Deferred:={target:= .collected r,args:= #[]}
def zA2 (l:Option Nat)(P:Program)(lo:Nat)(k:aj)(e:Env)(d:List Deferred)(h:Heap):Prop:=∃rec,h[lo]? =some (.loop rec)/\rec.state≠.busy/\(match rec.pending with
 |none=>k .normal e d (h.setIfInBounds lo (.loop {rec with state:= .exhausted}))
 |some j=>exec l P j k e d (h.setIfInBounds lo (.loop {rec with state:= .exhausted})))
theorem UA {gf:FuncId}(hf:ev e f= .func (.func gf) first caps)(H:∀fn:FuncId,ak P gf (first++ #[.func (.yield (h.size+1)) #[] #[]]++caps) ((h.push (.deferred (some []))).push (.loop {state:= .ready,pending:=none,fn,tmps:=e.toArray,params:=ps,assign:=a,body:=b,defers:=h.size}))
 (fun _ h2=>zA2 none P (h.size+1) k e (mkD h.size::d) h2)):WP none P (.rangeFunc f ps a b) k e d h:=by
 unfold WP;intro w hw;subst hw;refine wpIn_rangeFunc fun fn _=> ?_
 have hcl:=H fn;unfold ak at hcl;obtain⟨hbod,hcl⟩:=hcl;obtain⟨W1,hW1⟩:∃W1:World,W1={w with heap:=(w.heap.push (.deferred (some []))).push (.loop {state:= .ready,pending:=none,fn,tmps:=e.toArray,params:=ps,assign:=a,body:=b,defers:=w.heap.size})}:=⟨_,rfl⟩;have hcw:=hcl W1 (by rw[hW1]);unfold gP at hcw;refine⟨w.heap.size+1,[mkD w.heap.size],W1,⟨.fn (.func gf) caps,first++ #[.func (.yield (w.heap.size+1)) #[] #[]]⟩,W1,gf,first++ #[.func (.yield (w.heap.size+1)) #[] #[]]++caps,W1,?_,?_,fun _ _=>trivial,?_,fun hh=>by simp[kU]at hh,oV none ?_⟩
 .rw[hW1];exact Lu
 .have hev:ev e (.const (.func (.yield (w.heap.size+1)) #[] #[]))= .func (.yield (w.heap.size+1)) #[] #[]:=rfl;rw[dY];simp only[resolve,hf,Deferred.ofValue,Sem.run_pure,List.map_toArray,List.map_cons,List.map_nil,hev]
 .show(callFunc gf _).run P _=_;exact CE hbod _
 .refine Calls.mono hcw ?_;rintro e' w3 ⟨v,rfl,⟨rec,q1,q2,q3⟩,hr3⟩;have hr3:Eng.Rest w w3:=by rw[hW1]at hr3;exact⟨hr3.os,hr3.tape,hr3.output⟩
  refine⟨_,_,FM (P:=P) q1 q2,?_⟩;cases hp:rec.pending with
  |none=>
   rw[hp]at q3;exact⟨q3,⟨hr3.os,hr3.tape,hr3.output⟩⟩
  |some j=>
   rw[hp]at q3;have hb:=dI _ _ _ _ _ q3;unfold WP at hb;rw[<-hp]at hb;have hb:=hb {w3 with heap:=w3.heap.setIfInBounds (w.heap.size+1) (.loop {rec with state:= .exhausted})} rfl;rw[hp]at hb;refine wpIn_mono hb ?_;rintro x a' w4 ⟨c1,c2⟩;exact⟨c1,hr3.trans ⟨c2.os,c2.tape,c2.output⟩⟩
theorem iH {b:Frame}{a:Act}{k:List Item}{cs:List Frame}:Go.step P (lone (b.atR a (.code (.scope c)::k)) cs w)= .next (lone (b.atR a (.code c:: .inScope c::k)) cs w):=
 step_lone_go (by simp[stepG,stepG.exec,Frame.atR])
theorem Ao {b:Frame}{a:Act}{k:List Item}{cs:List Frame}:Go.step P (lone (b.atR a (.inScope c::k)) cs w)= .next (lone (b.atR a k) cs w):=
 step_lone_go (by simp[stepG,stepG.exec,Frame.atR])
theorem IU {F:Fence}{n:Nat}{Q:Exit->Act->World->Prop}{a:Act}(hc:c.wpIn F n P (fun x a w=>(∀i,x≠.goto i)/\Q x a w) a w):(Code.scope c).wpIn F n P Q a w:=by
 intro b k cs hro hb hr;have h0:(lone (b.atR a (.code (.scope c)::k)) cs w).fenced P F:=fenced_calm hb hr rfl;obtain⟨e,a₁,w₁,hq,harr⟩:=hc b (.inScope c::k) cs hro hb hr;cases e with
 |normal=>exact⟨.normal,a₁,w₁,hq.2,.head h0 iH (StepsIn.trans harr (.one (fenced_calm hb hr rfl) Ao))⟩
 |exit id=>
  have hx:exitTo id (.inScope c::k)=exitTo id k:=by simp[exitTo]
  exact⟨.exit id,a₁,w₁,hq.2,fun k' hk=> .head h0 iH (harr.1 k' (by rw[hx];exact hk)),
   fun hr' hk=>let⟨k₁,h1,h2⟩:=harr.2 hr' (by rw[hx];exact hk);⟨k₁,h1,.head h0 iH h2⟩⟩
 |goto l=>exact absurd rfl (hq.1 l)
 |ret=>exact⟨_,a₁,w₁,hq.2,.of_steps (.one h0 iH) harr⟩
 |panic ch=>exact⟨_,a₁,w₁,hq.2,.of_steps (.one h0 iH) harr⟩
 |outgrown=>exact⟨_,a₁,w₁,hq.2,.of_steps (.one h0 iH) harr⟩
theorem DU {gf:FuncId}(hf:ev e f= .func (.func gf) first caps)(H:∀R:Loop,R.state= .ready->R.pending=none->R.tmps=e.toArray->R.params=ps->R.assign=a->R.body=b->R.defers=h.size->
 ak P gf (first++ #[.func (.yield (h.size+1)) #[] #[]]++caps) ((h.push (.deferred (some []))).push (.loop R)) (fun _ h2=>zA2 none P (h.size+1) k e (mkD h.size::d) h2)):WP none P (.rangeFunc f ps a b) k e d h:=
 UA hf fun fn=>H _ rfl rfl rfl rfl rfl rfl rfl
theorem Loop.back {R:Loop}(h1:R.state= .ready)(h2:R.pending=none):({({R with state:= .busy}:Loop)with state:= .ready,pending:=none}:Loop)=R:=by
 cases R;simp_all
def BA (k:aj):aj:=fun x e d h=>(∀i,x≠.goto i)/\k x e d h
theorem UE (H:exec l P c (BA k) e d h):WP l P (.scope c) k e d h:=by
 have hb:=dI _ _ _ _ _ H;unfold WP at *;intro w hw;refine IU (wpIn_mono (hb w hw) ?_);rintro x a' w' ⟨⟨c1,c2⟩,hr⟩;exact⟨c1,c2,hr⟩
theorem YU (H:exec l P c (BA k) e d h):exec l P (.scope c) k e d h:=by
 unfold exec;exact UE H
theorem Uo:BA k .normal e d h=k .normal e d h:=eqi (propext ⟨fun H=>H.2,fun H=>⟨fun _ hi=>(by cases hi),H⟩⟩)
theorem YA:BA k .ret e d h=k .ret e d h:=eqi (propext ⟨fun H=>H.2,fun H=>⟨fun _ hi=>(by cases hi),H⟩⟩)
theorem XA {i:Nat}:BA k (.exit i) e d h=k (.exit i) e d h:=eqi (propext ⟨fun H=>H.2,fun H=>⟨fun _ hi=>(by cases hi),H⟩⟩)
theorem zAt (hr:h[r]? =some (.deferred (some [])))(H:jl P rs e [] K (h.setIfInBounds r (.deferred none))):lq P rs K .ret e [mkD r] h:=by
 unfold lq oO;exact⟨⟨r,rfl,hr,trivial⟩,H⟩
theorem zAm (hr:h[r]? =some (.deferred (some [])))(H:jl P rs e [] K (h.setIfInBounds r (.deferred none))):lq P rs K .normal e [mkD r] h:=by
 unfold lq oO;exact⟨⟨r,rfl,hr,trivial⟩,H⟩
theorem zBD (hr:h[r]? =some (.deferred (some [])))(H:jl P rs e [] K (h.setIfInBounds r (.deferred none))):oO P rs e [mkD r] h K:=by
 unfold oO;exact⟨⟨r,rfl,hr,trivial⟩,H⟩
theorem yT {body:Code}(hr:h[lo]? =some (.loop rec))(hs:rec.state= .ready)(H:exec (some lo) P body (zAs lo K) e d (h.setIfInBounds lo (.loop {rec with state:= .busy}))):zAk P lo body K .normal e d h:=
 ⟨rfl,rec,hr,hs,H⟩
theorem Upd.set {b:Nat}:Upd h (h.setIfInBounds b o) b:=⟨by simp,fun b' hb=>Array.getElem?_setIfInBounds_ne (Ne.symm hb)⟩
theorem mE {b:Nat}(hb:b<h.size):(h.setIfInBounds b o)[b]? =some o:=by simp[hb]
def zA4 (P:Program)(v:Value)(F:Heap->Prop)(xss:List (List Value)):Prop:=
 ∃q first caps,v= .func (.func q) first caps/\∀(lo:Nat) (h0:Heap) (J:Nat->Heap->Prop) (E:Heap->Prop),(∀i h',J i h'->F h')->J 0 h0->
  (∀i h' vs,xss[i]? =some vs->J i h'->Aw P (.func (.yield lo) #[] #[]) vs h' (fun v h''=>(v= .bool true/\J (i+1) h'')\/(v= .bool false/\E h'')))->
  ak P q (first++ #[.func (.yield lo) #[] #[]]++caps) h0 (fun _ h'=>J xss.length h'\/E h')
def U9 (lo:Nat)(o:Obj)(K:Heap->Prop)(Br:Code->Heap->Prop):aj:=fun x _ _ h=>h[lo]? =some o/\match x with
 | .normal=>K h
 | .ret=>Br .ret h
 | .exit i=>Br (.exit i) h
 |_=>False
def Yj (P:Program)(lo:Nat)(o:Obj)(b:Code)(K:Heap->Prop)(Br:Code->Heap->Prop):aj:=fun x e d h=>x= .normal/\h[lo]? =some o/\
 ∀h2 o2,Upd h h2 lo->h2[lo]? =some o2->exec (some lo) P b (U9 lo o2 K Br) e d h2
theorem Xj {K:Heap->Prop}:U9 lo o K Br .normal e d h=(h[lo]? =some o/\K h):=eqi rfl
theorem zA8 {K:Heap->Prop}:U9 lo o K Br .ret e d h=(h[lo]? =some o/\Br .ret h):=eqi rfl
theorem zAJ {i:Nat}{K:Heap->Prop}:U9 lo o K Br (.exit i) e d h=(h[lo]? =some o/\Br (.exit i) h):=eqi rfl
theorem XG {K:Heap->Prop}:Yj P lo o b K Br .normal e d h=(h[lo]? =some o/\
 ∀h2 o2,Upd h h2 lo->h2[lo]? =some o2->exec (some lo) P b (U9 lo o2 K Br) e d h2):=eqi (propext ⟨fun H=>H.2,fun H=>⟨rfl,H⟩⟩)
theorem Zp {F:Heap->Prop}{xss:List (List Value)}(hf:ev e f=v)(hseq:zA4 P v F xss)(Inv:Nat->Heap->Prop)(Br:Code->Heap->Prop)(hps:∀vs∈xss,vs.length=ps.size)(hext:∀i h',Inv i h'->F h')(hupd:∀i h1 h2,Inv i h1->Upd h1 h2 (h.size+1)->Inv i h2)(bupd:∀j h1 h2,Br j h1->Upd h1 h2 (h.size+1)->Br j h2)(start:∀h',Ext h h'->h'[h.size]? =some (.deferred (some []))->h'.size=h.size+2->Inv 0 h')(round:∀i h' vs o,xss[i]? =some vs->Inv i h'->h'[h.size+1]? =some o->exec (some (h.size+1)) P a (Yj P (h.size+1) o b (Inv (i+1)) Br) (binds ps.toList vs e) [] h')(fin:∀h',Inv xss.length h'->k .normal e (mkD h.size::d) h')(brk:∀j h',Br j h'->exec none P j k e (mkD h.size::d) h'):WP none P (.rangeFunc f ps a b) k e d h:=by
 obtain⟨q,first,caps,rfl,hq⟩:=hseq;refine DU hf ?_;intro R R1 R2 R3 R4 R5 R6 R7;have hsz:(h.push (.deferred (some []))).size=h.size+1:=by simp
 refine ak.mono (hq (h.size+1) _ (fun i h'=>Inv i h'/\h'[h.size+1]? =some (.loop R)) (fun h'=>∃(rec:Loop) (j:Code),h'[h.size+1]? =some (.loop rec)/\rec.state= .done/\rec.pending=some j/\Br j h') (fun i h' H=>hext i h' H.1) ?_ ?_) ?_
 .refine⟨start _ (((Ext.refl h).push _).push _) (Jy jD) (by simp),?_⟩;have:=jD (h:=h.push (.deferred (some []))) (o:= .loop R);rwa[hsz]at this
 .rintro i h' vs hvs ⟨hI,hR⟩;refine yZ hR (by rw[R4];exact hps _ (List.mem_of_getElem? hvs)) ?_;rw[R3,R4,R5,R6,List.toList_toArray];refine eX a ?_ _ _ _ (round i h' vs _ hvs hI hR);rintro x e2 d2 h2 ⟨rfl,h2o,H⟩;refine yT h2o R1 ?_;refine eX b ?_ _ _ _ (H _ _ Upd.set (mE (bA h2o)));rintro x e3 d3 h3 ⟨h3o,H3⟩;cases x with
  |normal=>
   refine⟨_,h3o,?_⟩;refine .inl ⟨rfl,hupd _ _ _ H3 Upd.set,?_⟩;show(h3.setIfInBounds _ _)[_]? =_;rw[mE (bA h3o),Loop.back R1 R2]
  |ret=>
   refine⟨_,h3o,?_⟩;exact .inr ⟨rfl,_,_,mE (bA h3o),rfl,rfl,bupd _ _ _ H3 Upd.set⟩
  |exit j=>
   refine⟨_,h3o,?_⟩;exact .inr ⟨rfl,_,_,mE (bA h3o),rfl,rfl,bupd _ _ _ H3 Upd.set⟩
  |_=>exact H3.elim
 .rintro v h' (⟨hI,hR⟩|⟨rec,j,hR,hst,hpd,hB⟩)
  .refine⟨_,hR,by rw[R1];decide,?_⟩;rw[R2];exact fin _ (hupd _ _ _ hI Upd.set)
  .refine⟨_,hR,by rw[hst];decide,?_⟩;rw[hpd];exact brk _ _ (bupd _ _ _ hB Upd.set)
end
end yields
end Go.Eng
