/- Texts joined by pack.py: lemmas for YtepaekbjoombpaaGreatDoorSettled. No condition. -/
import Derived.Test.YtepaekbjoombpaaGreatDoorPD6
import Derived.RangeFuncIn
import Derived.LoopNIn
import Derived.ProofKit
import Derived.KernelRfl
import Derived.Test.YtepaekbjoombpaaGreatDoorProg
set_option linter.unusedSimpArgs false
set_option linter.unusedVariables false
set_option linter.defProp false
section
set_option linter.unusedVariables false
set_option linter.unusedSimpArgs false
namespace Go.Eng
open Go
section yields
variable {P:Program} {l:Option Nat} {h:Heap} {e:Env} {d:List Deferred} {k:Cont}
def zfv (P:Program)(v:Value)(vs:List Value)(h:Heap)(K:Value→Heap→Prop):Prop:=
  ∀ (er:Env) (f:Operand) (xs:Array Operand) (ats:Array TypeId) (ty:TypeId),ev er f=v→(xs.map (ev er)).toList=vs→zg P (.call ⟨.value f,xs,ats⟩) ty er h K
theorem zfv.run {v:Value}{vs:List Value}{K K':Value→Heap→Prop}(H:zfv P v vs h K){er:Env}{f:Operand}{xs:Array Operand}{ats:Array TypeId}{ty:TypeId}(hf:ev er f=v)(hx:(xs.map (ev er)).toList=vs)
    (hk:∀ v h,K v h→K' v h):zg P (.call ⟨.value f,xs,ats⟩) ty er h K':=zZ hk (H er f xs ats ty hf hx)
theorem zfv.run1 {v u:Value}{K K':Value→Heap→Prop}(H:zfv P v [u] h K){er:Env}{f x:Operand}{ats:Array TypeId}{ty:TypeId}(hf:ev er f=v)(hx:ev er x=u)
    (hk:∀ v h,K v h→K' v h):zg P (.call ⟨.value f,#[x],ats⟩) ty er h K':=zZ hk (H er f #[x] ats ty hf (by simp [hx]))
theorem zB {lo:Nat}{first caps args:Array Value}{K:Value→Heap→Prop}{F:Prop}:zcX P (.func (.yield lo) first caps) args h K F=F:=by unfold zcX; rfl
theorem zcU {w:World}{r:Nat}{rec:Loop}(hr:w.heap[r]?=some (.loop rec)):(Instr.getLoop r).run P w=.ok rec w:=by
  simp [Instr.getLoop,getObj,Sem.run,hr,Result.andThen]
theorem zea {w:World}{r:Nat}{rec:Loop}(hr:w.heap[r]?=some (.loop rec))(o:Obj):(setObj r o).run P w=.ok () { w with heap:=w.heap.setIfInBounds r o }:=by
  simp [setObj,Sem.run,hr]
theorem zpZ {w:World}{r:Nat}{rec:Loop}(hr:w.heap[r]?=some (.loop rec)){args:Array Value}(hs:args.size=rec.params.size) :
    (Instr.yield r args).run P w=.ok (.round r rec.fn ((rec.params.zip args).foldl (fun tmps (x:Tmp × Value)=>tmps.setIfInBounds x.1 x.2) rec.tmps) rec.assign rec.body) w:=by
  simp [Instr.yield,zcU hr,Result.andThen,hs]
theorem zpz {w:World}{r:Nat}{rec:Loop}(hr:w.heap[r]?=some (.loop rec))(hs:rec.state=.ready) :
    (Instr.beginRound r).run P w=.ok () { w with heap:=w.heap.setIfInBounds r (.loop { rec with state:=.busy }) }:=by
  simp [Instr.beginRound,zcU hr,zea hr,Result.andThen,hs]
theorem zfm {w:World}{r:Nat}{rec:Loop}(hr:w.heap[r]?=some (.loop rec))(j:Option Code) :
    (Instr.endRound r j).run P w=.ok (.bool j.isNone) { w with heap:=w.heap.setIfInBounds r (.loop { rec with state:=if j.isNone then .ready else .done,pending:=j }) }:=by
  simp [Instr.endRound,zcU hr,zea hr,Result.andThen]
theorem zmg {w:World}{r:Nat}{rec:Loop}(hr:w.heap[r]?=some (.loop rec))(hs:rec.state≠.busy) :
    (Instr.endLoop r).run P w=.ok rec.pending { w with heap:=w.heap.setIfInBounds r (.loop { rec with state:=.exhausted }) }:=by
  have:(rec.state == LoopState.busy)=false:=by cases hst:rec.state <;> first | rfl | exact absurd hst hs
  simp [Instr.endLoop,zcU hr,zea hr,Result.andThen,this]
  intro hh; exact absurd hh hs
theorem ziG:∀ (l:List (Tmp × Value)) (a:Array Value),(l.foldl (fun tmps (x:Tmp × Value)=>tmps.setIfInBounds x.1 x.2) a).toList=l.foldl (fun er (x:Tmp × Value)=>er.set x.1 x.2) a.toList
  | [],a=>rfl
  | x::l,a=>by
    simp only [List.foldl_cons]
    rw [ziG l]
    simp
theorem zp4 {w:World}{fn:FuncId}{tmps:Array Value}{ps:Array Tmp}{a b:Code}:(Instr.enterLoop fn tmps ps a b none).run P w=.ok (w.heap.size+1,[{ target:=.collected w.heap.size,args:=#[] }])
    { w with heap:=(w.heap.push (.deferred (some []))).push (.loop { state:=.ready,pending:=none,fn,tmps,params:=ps,assign:=a,body:=b,defers:=w.heap.size }) }:=by
  simp [Instr.enterLoop,newObj,Sem.run,Result.andThen]
  exact⟨rfl,rfl,rfl⟩
def binds:List Tmp→List Value→Env→Env
  | p::ps,v::vs,e=>binds ps vs (e.set p v)
  | _,_,e=>e
theorem zH {p:Tmp}{ps:List Tmp}{v:Value}{vs:List Value}{e:Env}:binds (p::ps) (v::vs) e=binds ps vs (e.set p v):=eqi rfl
theorem zL {vs:List Value}{e:Env}:binds [] vs e=e:=by simp [binds]
theorem zlY:∀ (ps:List Tmp) (vs:List Value) (e:Env),binds ps vs e=(ps.zip vs).foldl (fun er (x:Tmp × Value)=>er.set x.1 x.2) e
  | [],vs,e=>by simp [binds]
  | p::ps,[],e=>by simp [binds]
  | p::ps,v::vs,e=>by simp [binds,zlY ps vs]
def endY (lo:Nat)(K:Value→Heap→Prop):Cont:=fun x _ _ h=>∃ rec,h[lo]?=some (.loop rec)∧match x with
  | .normal=>K (.bool true) (h.setIfInBounds lo (.loop { rec with state:=.ready,pending:=none }))
  | .ret=>K (.bool false) (h.setIfInBounds lo (.loop { rec with state:=.done,pending:=some .ret }))
  | .exit i=>K (.bool false) (h.setIfInBounds lo (.loop { rec with state:=.done,pending:=some (.exit i) }))
  | .goto i=>K (.bool false) (h.setIfInBounds lo (.loop { rec with state:=.done,pending:=some (.goto i) }))
  | _=>False
def asgY (P:Program)(lo:Nat)(body:Code)(K:Value→Heap→Prop):Cont:=fun x e d h=>x=.normal∧∃ rec,h[lo]?=some (.loop rec)∧rec.state=.ready ∧
  exec (some lo) P body (endY lo K) e d (h.setIfInBounds lo (.loop { rec with state:=.busy }))
theorem znx {lo:Nat}{rec:Loop}{vs:List Value}{K:Value→Heap→Prop}(hr:h[lo]?=some (.loop rec))(hsz:vs.length=rec.params.size)
    (H:exec (some lo) P rec.assign (asgY P lo rec.body K) (binds rec.params.toList vs rec.tmps.toList) [] h):zfv P (.func (.yield lo) #[] #[]) vs h K:=by
  intro er f xs ats ty hf hx
  unfold zg
  refine And.intro rfl fun w hw=>?_
  subst hw
  have hargs:xs.map (ev er)=vs.toArray:=by apply Array.toList_inj.1; simpa using hx
  have hrun : (execOp (ev er) { dst := none, op := .call ⟨.value f, xs, ats⟩, type := ty, pos := "", after := #[], guard := none }).run P w = .ok (.round lo rec.fn ((rec.params.zip vs.toArray).foldl (fun tmps (x : Tmp × Value) => tmps.setIfInBounds x.1 x.2) rec.tmps) rec.assign rec.body) w := by
    have:=zpZ (P:=P) hr (args:=vs.toArray) (by simpa using hsz)
    simp only [execOp,resolve,hf,Deferred.ofValue,invoke,Sem.run_bind,Sem.run_pure,Result.andThen_ok,hargs,Array.empty_append,this]
  rw [hrun]
  refine⟨Eng.Rest.refl w,roundIn_of_wpIn trivial ?_⟩
  have ha:=zay _ _ _ _ _ H
  unfold WP at ha
  have ha:=ha w rfl
  have htm:(binds rec.params.toList vs rec.tmps.toList).toArray=((rec.params.zip vs.toArray).foldl (fun tmps (x:Tmp × Value)=>tmps.setIfInBounds x.1 x.2) rec.tmps):=by
    apply Array.toList_inj.1
    rw [← Array.foldl_toList,ziG,zlY]
    simp
  rw [← htm]
  refine wpIn_mono ha ?_
  rintro x1 a1 w1 ⟨⟨hx1,rec1,b1,b2,b3⟩,hr1⟩
  subst hx1
  refine⟨_,zpz (P:=P) b1 b2,?_⟩
  have hb:=zay _ _ _ _ _ b3
  unfold WP at hb
  have hb:=hb { w1 with heap:=w1.heap.setIfInBounds lo (.loop { rec1 with state:=.busy }) } rfl
  rw [za0] at hb
  refine wpIn_mono hb ?_
  rintro x2 a2 w2 ⟨⟨rec2,c1,c2⟩,hr2⟩
  have hrest:Eng.Rest w w2:=hr1.trans ⟨hr2.os,hr2.tape,hr2.output⟩
  cases x2 with
  | normal=>exact⟨_,_,zfm (P:=P) c1 none,_,rfl,c2,hrest.trans ⟨rfl,rfl,rfl⟩⟩
  | ret=>exact⟨_,_,zfm (P:=P) c1 (some .ret),_,rfl,c2,hrest.trans ⟨rfl,rfl,rfl⟩⟩
  | exit i=>exact⟨_,_,zfm (P:=P) c1 (some (.exit i)),_,rfl,c2,hrest.trans ⟨rfl,rfl,rfl⟩⟩
  | goto i=>exact⟨_,_,zfm (P:=P) c1 (some (.goto i)),_,rfl,c2,hrest.trans ⟨rfl,rfl,rfl⟩⟩
  | _=>exact c2.elim
def mkD (r:Nat):Deferred:={ target:=.collected r,args:=#[] }
def endF (l:Option Nat)(P:Program)(lo:Nat)(k:Cont)(e:Env)(d:List Deferred)(h:Heap):Prop:=∃ rec,h[lo]?=some (.loop rec)∧rec.state≠.busy∧(match rec.pending with
  | none=>k .normal e d (h.setIfInBounds lo (.loop { rec with state:=.exhausted }))
  | some j=>exec l P j k e d (h.setIfInBounds lo (.loop { rec with state:=.exhausted })))
theorem WP_range {f:Operand}{ps:Array Tmp}{a b:Code}{gf:FuncId}{first caps:Array Value}(hf:ev e f=.func (.func gf) first caps)
    (H:∀ fn:FuncId,zb P gf (first++#[.func (.yield (h.size+1)) #[] #[]]++caps) ((h.push (.deferred (some []))).push (.loop { state:=.ready,pending:=none,fn,tmps:=e.toArray,params:=ps,assign:=a,body:=b,defers:=h.size }))
      (fun _ h2=>endF none P (h.size+1) k e (mkD h.size::d) h2)):WP none P (.rangeFunc f ps a b) k e d h:=by
  unfold WP
  intro w hw
  subst hw
  refine wpIn_rangeFunc fun fn _=>?_
  have hcl:=H fn
  unfold zb at hcl
  obtain⟨hbod,hcl⟩:=hcl
  obtain⟨W1,hW1⟩:∃ W1:World,W1={ w with heap:=(w.heap.push (.deferred (some []))).push (.loop { state:=.ready,pending:=none,fn,tmps:=e.toArray,params:=ps,assign:=a,body:=b,defers:=w.heap.size }) }:=⟨_,rfl⟩
  have hcw:=hcl W1 (by rw [hW1])
  unfold zbi at hcw
  refine⟨w.heap.size+1,[mkD w.heap.size],W1,⟨.fn (.func gf) caps,first++#[.func (.yield (w.heap.size+1)) #[] #[]]⟩,W1,gf,first++#[.func (.yield (w.heap.size+1)) #[] #[]]++caps,W1,?_,?_,fun _ _=>trivial,?_,fun hh=>by simp [zcy] at hh,zdR none ?_⟩
  · rw [hW1]
    exact zp4
  · have hev:ev e (.const (.func (.yield (w.heap.size+1)) #[] #[]))=.func (.yield (w.heap.size+1)) #[] #[]:=rfl
    rw [zaE]
    simp only [resolve,hf,Deferred.ofValue,Sem.run_pure,List.map_toArray,List.map_cons,List.map_nil,hev]
  · show (callFunc gf _).run P _=_
    exact zhV hbod _
  · refine Calls.mono hcw ?_
    rintro e' w3 ⟨v,rfl,⟨rec,q1,q2,q3⟩,hr3⟩
    have hr3:Eng.Rest w w3:=by rw [hW1] at hr3; exact⟨hr3.os,hr3.tape,hr3.output⟩
    refine⟨_,_,zmg (P:=P) q1 q2,?_⟩
    cases hp:rec.pending with
    | none=>
      rw [hp] at q3
      exact⟨q3,⟨hr3.os,hr3.tape,hr3.output⟩⟩
    | some j=>
      rw [hp] at q3
      have hb:=zay _ _ _ _ _ q3
      unfold WP at hb
      rw [← hp] at hb
      have hb:=hb { w3 with heap:=w3.heap.setIfInBounds (w.heap.size+1) (.loop { rec with state:=.exhausted }) } rfl
      rw [hp] at hb
      refine wpIn_mono hb ?_
      rintro x a' w4 ⟨c1,c2⟩
      exact⟨c1,hr3.trans ⟨c2.os,c2.tape,c2.output⟩⟩
theorem zby {b:Frame}{a:Act}{k:List Item}{cs:List Frame}{w:World}{c:Code}:Go.step P (lone (b.atR a (.code (.scope c)::k)) cs w)=.next (lone (b.atR a (.code c::.inScope c::k)) cs w):=
  step_lone_go (by simp [stepG,stepG.exec,Frame.atR])
theorem zj3 {b:Frame}{a:Act}{k:List Item}{cs:List Frame}{w:World}{c:Code}:Go.step P (lone (b.atR a (.inScope c::k)) cs w)=.next (lone (b.atR a k) cs w):=
  step_lone_go (by simp [stepG,stepG.exec,Frame.atR])
theorem znv {F:Fence}{n:Nat}{Q:Exit→Act→World→Prop}{a:Act}{w:World}{c:Code}(hc:c.wpIn F n P (fun x a w=>(∀ i,x≠.goto i)∧Q x a w) a w):(Code.scope c).wpIn F n P Q a w:=by
  intro b k cs hro hb hr
  have h0:(lone (b.atR a (.code (.scope c)::k)) cs w).fenced P F:=fenced_calm hb hr rfl
  obtain⟨e,a₁,w₁,hq,harr⟩:=hc b (.inScope c::k) cs hro hb hr
  cases e with
  | normal=>exact⟨.normal,a₁,w₁,hq.2,.head h0 zby (StepsIn.trans harr (.one (fenced_calm hb hr rfl) zj3))⟩
  | exit id=>
    have hx:exitTo id (.inScope c::k)=exitTo id k:=by simp [exitTo]
    exact⟨.exit id,a₁,w₁,hq.2,fun k' hk=>.head h0 zby (harr.1 k' (by rw [hx]; exact hk)),
      fun hr' hk=>let ⟨k₁,h1,h2⟩:=harr.2 hr' (by rw [hx]; exact hk); ⟨k₁,h1,.head h0 zby h2⟩⟩
  | goto l=>exact absurd rfl (hq.1 l)
  | ret=>exact⟨_,a₁,w₁,hq.2,.of_steps (.one h0 zby) harr⟩
  | panic ch=>exact⟨_,a₁,w₁,hq.2,.of_steps (.one h0 zby) harr⟩
  | outgrown=>exact⟨_,a₁,w₁,hq.2,.of_steps (.one h0 zby) harr⟩
theorem zri {f:Operand}{ps:Array Tmp}{a b:Code}{gf:FuncId}{first caps:Array Value}(hf:ev e f=.func (.func gf) first caps)
    (H:∀ R:Loop,R.state=.ready→R.pending=none→R.tmps=e.toArray→R.params=ps→R.assign=a→R.body=b→R.defers=h.size →
      zb P gf (first++#[.func (.yield (h.size+1)) #[] #[]]++caps) ((h.push (.deferred (some []))).push (.loop R)) (fun _ h2=>endF none P (h.size+1) k e (mkD h.size::d) h2)):WP none P (.rangeFunc f ps a b) k e d h:=
  WP_range hf fun fn=>H _ rfl rfl rfl rfl rfl rfl rfl
theorem Loop.back {R:Loop}(h1:R.state=.ready)(h2:R.pending=none):({ ({ R with state:=.busy }:Loop) with state:=.ready,pending:=none }:Loop)=R:=by
  cases R; simp_all
def zgE (k:Cont):Cont:=fun x e d h=>(∀ i,x≠.goto i)∧k x e d h
theorem WP_scope {c:Code}(H:exec l P c (zgE k) e d h):WP l P (.scope c) k e d h:=by
  have hb:=zay _ _ _ _ _ H
  unfold WP at *
  intro w hw
  refine znv (wpIn_mono (hb w hw) ?_)
  rintro x a' w' ⟨⟨c1,c2⟩,hr⟩
  exact⟨c1,c2,hr⟩
theorem zpk {c:Code}(H:exec l P c (zgE k) e d h):exec l P (.scope c) k e d h:=by
  unfold exec
  exact WP_scope H
theorem zx:zgE k .normal e d h=k .normal e d h:=eqi (propext ⟨fun H=>H.2,fun H=>⟨fun _ hi=>(by cases hi),H⟩⟩)
theorem zG:zgE k .ret e d h=k .ret e d h:=eqi (propext ⟨fun H=>H.2,fun H=>⟨fun _ hi=>(by cases hi),H⟩⟩)
theorem zA {i:Nat}:zgE k (.exit i) e d h=k (.exit i) e d h:=eqi (propext ⟨fun H=>H.2,fun H=>⟨fun _ hi=>(by cases hi),H⟩⟩)
theorem fin_mark {rs:List ResultVar}{K:Value→Heap→Prop}{r:Nat}(hr:h[r]?=some (.deferred (some [])))(H:resA P rs e [] K (h.setIfInBounds r (.deferred none))):finW P rs e [mkD r] h K:=by
  unfold finW
  exact⟨⟨r,rfl,hr,trivial⟩,H⟩
theorem znO {lo:Nat}{body:Code}{K:Value→Heap→Prop}{rec:Loop}(hr:h[lo]?=some (.loop rec))(hs:rec.state=.ready)(H:exec (some lo) P body (endY lo K) e d (h.setIfInBounds lo (.loop { rec with state:=.busy }))):asgY P lo body K .normal e d h:=
  ⟨rfl,rec,hr,hs,H⟩
theorem Upd.set {b:Nat}{o:Obj}:Upd h (h.setIfInBounds b o) b:=⟨by simp,fun b' hb=>Array.getElem?_setIfInBounds_ne (Ne.symm hb)⟩
theorem zgY {b:Nat}{o:Obj}(hb:b<h.size):(h.setIfInBounds b o)[b]?=some o:=by simp [hb]
def ziQ (P:Program)(v:Value)(F:Heap→Prop)(xss:List (List Value)):Prop:=
  ∃ q first caps,v=.func (.func q) first caps∧∀ (lo:Nat) (h0:Heap) (J:Nat→Heap→Prop) (E:Heap→Prop),(∀ i h',J i h'→F h')→J 0 h0 →
    (∀ i h' vs,xss[i]?=some vs→J i h'→zfv P (.func (.yield lo) #[] #[]) vs h' (fun v h''=>(v=.bool true∧J (i+1) h'')∨(v=.bool false∧E h''))) →
    zb P q (first++#[.func (.yield lo) #[] #[]]++caps) h0 (fun _ h'=>J xss.length h'∨E h')
def endI (lo:Nat)(o:Obj)(K:Heap→Prop)(Br:Code→Heap→Prop):Cont:=fun x _ _ h=>h[lo]?=some o∧match x with
  | .normal=>K h
  | .ret=>Br .ret h
  | .exit i=>Br (.exit i) h
  | _=>False
def asgI (P:Program)(lo:Nat)(o:Obj)(b:Code)(K:Heap→Prop)(Br:Code→Heap→Prop):Cont:=fun x e d h=>x=.normal∧h[lo]?=some o ∧
  ∀ h2 o2,Upd h h2 lo→h2[lo]?=some o2→exec (some lo) P b (endI lo o2 K Br) e d h2
theorem znT {lo:Nat}{o:Obj}{K:Heap→Prop}{Br:Code→Heap→Prop}:endI lo o K Br .normal e d h=(h[lo]?=some o∧K h):=eqi rfl
theorem znn {lo:Nat}{o:Obj}{b:Code}{K:Heap→Prop}{Br:Code→Heap→Prop}:asgI P lo o b K Br .normal e d h=(h[lo]?=some o ∧
  ∀ h2 o2,Upd h h2 lo→h2[lo]?=some o2→exec (some lo) P b (endI lo o2 K Br) e d h2):=eqi (propext ⟨fun H=>H.2,fun H=>⟨rfl,H⟩⟩)
theorem zq3 {f:Operand}{ps:Array Tmp}{a b:Code}{v:Value}{F:Heap→Prop}{xss:List (List Value)}(hf:ev e f=v)(hseq:ziQ P v F xss)(Inv:Nat→Heap→Prop)(Br:Code→Heap→Prop)
    (hps:∀ vs∈xss,vs.length=ps.size)
    (hext:∀ i h',Inv i h'→F h')
    (hupd:∀ i h1 h2,Inv i h1→Upd h1 h2 (h.size+1)→Inv i h2) (bupd:∀ j h1 h2,Br j h1→Upd h1 h2 (h.size+1)→Br j h2)
    (start:∀ h',Ext h h'→h'[h.size]?=some (.deferred (some []))→h'.size=h.size+2→Inv 0 h')
    (round:∀ i h' vs o,xss[i]?=some vs→Inv i h'→h'[h.size+1]?=some o→exec (some (h.size+1)) P a (asgI P (h.size+1) o b (Inv (i+1)) Br) (binds ps.toList vs e) [] h')
    (fin:∀ h',Inv xss.length h'→k .normal e (mkD h.size::d) h')
    (brk:∀ j h',Br j h'→exec none P j k e (mkD h.size::d) h'):WP none P (.rangeFunc f ps a b) k e d h:=by
  obtain⟨q,first,caps,rfl,hq⟩:=hseq
  refine zri hf ?_
  intro R R1 R2 R3 R4 R5 R6 R7
  have hsz:(h.push (.deferred (some []))).size=h.size+1:=by simp
  refine zb.mono (hq (h.size+1) _ (fun i h'=>Inv i h'∧h'[h.size+1]?=some (.loop R)) (fun h'=>∃ (rec:Loop) (j:Code),h'[h.size+1]?=some (.loop rec)∧rec.state=.done∧rec.pending=some j∧Br j h') (fun i h' H=>hext i h' H.1) ?_ ?_) ?_
  · refine⟨start _ (((Ext.refl h).push _).push _) (zaN zw) (by simp),?_⟩
    have:=zw (h:=h.push (.deferred (some []))) (o:=.loop R)
    rwa [hsz] at this
  · rintro i h' vs hvs ⟨hI,hR⟩
    refine znx hR (by rw [R4]; exact hps _ (List.mem_of_getElem? hvs)) ?_
    rw [R3,R4,R5,R6,List.toList_toArray]
    refine zbp a ?_ _ _ _ (round i h' vs _ hvs hI hR)
    rintro x e2 d2 h2 ⟨rfl,h2o,H⟩
    refine znO h2o R1 ?_
    refine zbp b ?_ _ _ _ (H _ _ Upd.set (zgY (zq h2o)))
    rintro x e3 d3 h3 ⟨h3o,H3⟩
    cases x with
    | normal=>
      refine⟨_,h3o,?_⟩
      refine .inl ⟨rfl,hupd _ _ _ H3 Upd.set,?_⟩
      show (h3.setIfInBounds _ _)[_]?=_
      rw [zgY (zq h3o),Loop.back R1 R2]
    | ret=>
      refine⟨_,h3o,?_⟩
      exact .inr ⟨rfl,_,_,zgY (zq h3o),rfl,rfl,bupd _ _ _ H3 Upd.set⟩
    | exit j=>
      refine⟨_,h3o,?_⟩
      exact .inr ⟨rfl,_,_,zgY (zq h3o),rfl,rfl,bupd _ _ _ H3 Upd.set⟩
    | _=>exact H3.elim
  · rintro v h' (⟨hI,hR⟩ | ⟨rec,j,hR,hst,hpd,hB⟩)
    · refine⟨_,hR,by rw [R1]; decide,?_⟩
      rw [R2]
      exact fin _ (hupd _ _ _ hI Upd.set)
    · refine⟨_,hR,by rw [hst]; decide,?_⟩
      rw [hpd]
      exact brk _ _ (bupd _ _ _ hB Upd.set)
end yields
end Go.Eng
end
section
namespace Go.Proofs.YtepaekbjoombpaaGreatDoor.Pt
open Go Go.Proofs Go.Run
set_option maxRecDepth 100000
noncomputable def ff2:FI:=⟨match Tryz.f2.body with | some c=>c | none=>.skip,Tryz.f2.ntmps,Tryz.f2.results.toList⟩
noncomputable def ff3:FI:=⟨match Tryz.f3.body with | some c=>c | none=>.skip,Tryz.f3.ntmps,Tryz.f3.results.toList⟩
noncomputable def ff4:FI:=⟨match Tryz.f4.body with | some c=>c | none=>.skip,Tryz.f4.ntmps,Tryz.f4.results.toList⟩
noncomputable def ff5:FI:=⟨match Tryz.f5.body with | some c=>c | none=>.skip,Tryz.f5.ntmps,Tryz.f5.results.toList⟩
noncomputable def ff6:FI:=⟨match Tryz.f6.body with | some c=>c | none=>.skip,Tryz.f6.ntmps,Tryz.f6.results.toList⟩
noncomputable def ff7:FI:=⟨match Tryz.f7.body with | some c=>c | none=>.skip,Tryz.f7.ntmps,Tryz.f7.results.toList⟩
noncomputable def ff8:FI:=⟨match Tryz.f8.body with | some c=>c | none=>.skip,Tryz.f8.ntmps,Tryz.f8.results.toList⟩
noncomputable def ff9:FI:=⟨match Tryz.f9.body with | some c=>c | none=>.skip,Tryz.f9.ntmps,Tryz.f9.results.toList⟩
noncomputable def ff10:FI:=⟨match Tryz.f10.body with | some c=>c | none=>.skip,Tryz.f10.ntmps,Tryz.f10.results.toList⟩
noncomputable def ff11:FI:=⟨match Tryz.f11.body with | some c=>c | none=>.skip,Tryz.f11.ntmps,Tryz.f11.results.toList⟩
noncomputable def ff12:FI:=⟨match Tryz.f12.body with | some c=>c | none=>.skip,Tryz.f12.ntmps,Tryz.f12.results.toList⟩
noncomputable def ff13:FI:=⟨match Tryz.f13.body with | some c=>c | none=>.skip,Tryz.f13.ntmps,Tryz.f13.results.toList⟩
noncomputable def ff14:FI:=⟨match Tryz.f14.body with | some c=>c | none=>.skip,Tryz.f14.ntmps,Tryz.f14.results.toList⟩
noncomputable def ff15:FI:=⟨match Tryz.f15.body with | some c=>c | none=>.skip,Tryz.f15.ntmps,Tryz.f15.results.toList⟩
noncomputable def ff16:FI:=⟨match Tryz.f16.body with | some c=>c | none=>.skip,Tryz.f16.ntmps,Tryz.f16.results.toList⟩
noncomputable def ff17:FI:=⟨match Tryz.f17.body with | some c=>c | none=>.skip,Tryz.f17.ntmps,Tryz.f17.results.toList⟩
noncomputable def ff18:FI:=⟨match Tryz.f18.body with | some c=>c | none=>.skip,Tryz.f18.ntmps,Tryz.f18.results.toList⟩
noncomputable def ff19:FI:=⟨match Tryz.f19.body with | some c=>c | none=>.skip,Tryz.f19.ntmps,Tryz.f19.results.toList⟩
noncomputable def ff20:FI:=⟨match Tryz.f20.body with | some c=>c | none=>.skip,Tryz.f20.ntmps,Tryz.f20.results.toList⟩
noncomputable def ff21:FI:=⟨match Tryz.f21.body with | some c=>c | none=>.skip,Tryz.f21.ntmps,Tryz.f21.results.toList⟩
noncomputable def ff22:FI:=⟨match Tryz.f22.body with | some c=>c | none=>.skip,Tryz.f22.ntmps,Tryz.f22.results.toList⟩
noncomputable def ff23:FI:=⟨match Tryz.f23.body with | some c=>c | none=>.skip,Tryz.f23.ntmps,Tryz.f23.results.toList⟩
noncomputable def ff24:FI:=⟨match Tryz.f24.body with | some c=>c | none=>.skip,Tryz.f24.ntmps,Tryz.f24.results.toList⟩
noncomputable def ff25:FI:=⟨match Tryz.f25.body with | some c=>c | none=>.skip,Tryz.f25.ntmps,Tryz.f25.results.toList⟩
noncomputable def ff26:FI:=⟨match Tryz.f26.body with | some c=>c | none=>.skip,Tryz.f26.ntmps,Tryz.f26.results.toList⟩
noncomputable def ff27:FI:=⟨match Tryz.f27.body with | some c=>c | none=>.skip,Tryz.f27.ntmps,Tryz.f27.results.toList⟩
noncomputable def ff28:FI:=⟨match Tryz.f28.body with | some c=>c | none=>.skip,Tryz.f28.ntmps,Tryz.f28.results.toList⟩
noncomputable def ff29:FI:=⟨match Tryz.f29.body with | some c=>c | none=>.skip,Tryz.f29.ntmps,Tryz.f29.results.toList⟩
noncomputable def ff30:FI:=⟨match Tryz.f30.body with | some c=>c | none=>.skip,Tryz.f30.ntmps,Tryz.f30.results.toList⟩
noncomputable def ff31:FI:=⟨match Tryz.f31.body with | some c=>c | none=>.skip,Tryz.f31.ntmps,Tryz.f31.results.toList⟩
noncomputable def ff32:FI:=⟨match Tryz.f32.body with | some c=>c | none=>.skip,Tryz.f32.ntmps,Tryz.f32.results.toList⟩
noncomputable def ff33:FI:=⟨match Tryz.f33.body with | some c=>c | none=>.skip,Tryz.f33.ntmps,Tryz.f33.results.toList⟩
noncomputable def ff34:FI:=⟨match Tryz.f34.body with | some c=>c | none=>.skip,Tryz.f34.ntmps,Tryz.f34.results.toList⟩
noncomputable def ff35:FI:=⟨match Tryz.f35.body with | some c=>c | none=>.skip,Tryz.f35.ntmps,Tryz.f35.results.toList⟩
noncomputable def ff36:FI:=⟨match Tryz.f36.body with | some c=>c | none=>.skip,Tryz.f36.ntmps,Tryz.f36.results.toList⟩
noncomputable def ff37:FI:=⟨match Tryz.f37.body with | some c=>c | none=>.skip,Tryz.f37.ntmps,Tryz.f37.results.toList⟩
noncomputable def ff38:FI:=⟨match Tryz.f38.body with | some c=>c | none=>.skip,Tryz.f38.ntmps,Tryz.f38.results.toList⟩
noncomputable def ff39:FI:=⟨match Tryz.f39.body with | some c=>c | none=>.skip,Tryz.f39.ntmps,Tryz.f39.results.toList⟩
noncomputable def ff40:FI:=⟨match Tryz.f40.body with | some c=>c | none=>.skip,Tryz.f40.ntmps,Tryz.f40.results.toList⟩
noncomputable def ff41:FI:=⟨match Tryz.f41.body with | some c=>c | none=>.skip,Tryz.f41.ntmps,Tryz.f41.results.toList⟩
noncomputable def ff42:FI:=⟨match Tryz.f42.body with | some c=>c | none=>.skip,Tryz.f42.ntmps,Tryz.f42.results.toList⟩
noncomputable def ff43:FI:=⟨match Tryz.f43.body with | some c=>c | none=>.skip,Tryz.f43.ntmps,Tryz.f43.results.toList⟩
noncomputable def ff44:FI:=⟨match Tryz.f44.body with | some c=>c | none=>.skip,Tryz.f44.ntmps,Tryz.f44.results.toList⟩
noncomputable def ff45:FI:=⟨match Tryz.f45.body with | some c=>c | none=>.skip,Tryz.f45.ntmps,Tryz.f45.results.toList⟩
noncomputable def ff46:FI:=⟨match Tryz.f46.body with | some c=>c | none=>.skip,Tryz.f46.ntmps,Tryz.f46.results.toList⟩
noncomputable def ff47:FI:=⟨match Tryz.f47.body with | some c=>c | none=>.skip,Tryz.f47.ntmps,Tryz.f47.results.toList⟩
noncomputable def ff48:FI:=⟨match Tryz.f48.body with | some c=>c | none=>.skip,Tryz.f48.ntmps,Tryz.f48.results.toList⟩
noncomputable def ff49:FI:=⟨match Tryz.f49.body with | some c=>c | none=>.skip,Tryz.f49.ntmps,Tryz.f49.results.toList⟩
noncomputable def ff50:FI:=⟨match Tryz.f50.body with | some c=>c | none=>.skip,Tryz.f50.ntmps,Tryz.f50.results.toList⟩
noncomputable def ff51:FI:=⟨match Tryz.f51.body with | some c=>c | none=>.skip,Tryz.f51.ntmps,Tryz.f51.results.toList⟩
noncomputable def ff52:FI:=⟨match Tryz.f52.body with | some c=>c | none=>.skip,Tryz.f52.ntmps,Tryz.f52.results.toList⟩
noncomputable def ff53:FI:=⟨match Tryz.f53.body with | some c=>c | none=>.skip,Tryz.f53.ntmps,Tryz.f53.results.toList⟩
noncomputable def ff54:FI:=⟨match Tryz.f54.body with | some c=>c | none=>.skip,Tryz.f54.ntmps,Tryz.f54.results.toList⟩
noncomputable def ff55:FI:=⟨match Tryz.f55.body with | some c=>c | none=>.skip,Tryz.f55.ntmps,Tryz.f55.results.toList⟩
noncomputable def ff56:FI:=⟨match Tryz.f56.body with | some c=>c | none=>.skip,Tryz.f56.ntmps,Tryz.f56.results.toList⟩
noncomputable def ff57:FI:=⟨match Tryz.f57.body with | some c=>c | none=>.skip,Tryz.f57.ntmps,Tryz.f57.results.toList⟩
noncomputable def ff58:FI:=⟨match Tryz.f58.body with | some c=>c | none=>.skip,Tryz.f58.ntmps,Tryz.f58.results.toList⟩
noncomputable def ff59:FI:=⟨match Tryz.f59.body with | some c=>c | none=>.skip,Tryz.f59.ntmps,Tryz.f59.results.toList⟩
noncomputable def ff60:FI:=⟨match Tryz.f60.body with | some c=>c | none=>.skip,Tryz.f60.ntmps,Tryz.f60.results.toList⟩
noncomputable def ff61:FI:=⟨match Tryz.f61.body with | some c=>c | none=>.skip,Tryz.f61.ntmps,Tryz.f61.results.toList⟩
noncomputable def ff62:FI:=⟨match Tryz.f62.body with | some c=>c | none=>.skip,Tryz.f62.ntmps,Tryz.f62.results.toList⟩
noncomputable def ff63:FI:=⟨match Tryz.f63.body with | some c=>c | none=>.skip,Tryz.f63.ntmps,Tryz.f63.results.toList⟩
noncomputable def ff64:FI:=⟨match Tryz.f64.body with | some c=>c | none=>.skip,Tryz.f64.ntmps,Tryz.f64.results.toList⟩
noncomputable def ff65:FI:=⟨match Tryz.f65.body with | some c=>c | none=>.skip,Tryz.f65.ntmps,Tryz.f65.results.toList⟩
noncomputable def ff66:FI:=⟨match Tryz.f66.body with | some c=>c | none=>.skip,Tryz.f66.ntmps,Tryz.f66.results.toList⟩
noncomputable def ff67:FI:=⟨match Tryz.f67.body with | some c=>c | none=>.skip,Tryz.f67.ntmps,Tryz.f67.results.toList⟩
noncomputable def ff68:FI:=⟨match Tryz.f68.body with | some c=>c | none=>.skip,Tryz.f68.ntmps,Tryz.f68.results.toList⟩
noncomputable def ff69:FI:=⟨match Tryz.f69.body with | some c=>c | none=>.skip,Tryz.f69.ntmps,Tryz.f69.results.toList⟩
noncomputable def ff70:FI:=⟨match Tryz.f70.body with | some c=>c | none=>.skip,Tryz.f70.ntmps,Tryz.f70.results.toList⟩
noncomputable def ff71:FI:=⟨match Tryz.f71.body with | some c=>c | none=>.skip,Tryz.f71.ntmps,Tryz.f71.results.toList⟩
noncomputable def ff72:FI:=⟨match Tryz.f72.body with | some c=>c | none=>.skip,Tryz.f72.ntmps,Tryz.f72.results.toList⟩
noncomputable def ff73:FI:=⟨match Tryz.f73.body with | some c=>c | none=>.skip,Tryz.f73.ntmps,Tryz.f73.results.toList⟩
noncomputable def ff74:FI:=⟨match Tryz.f74.body with | some c=>c | none=>.skip,Tryz.f74.ntmps,Tryz.f74.results.toList⟩
noncomputable def ff75:FI:=⟨match Tryz.f75.body with | some c=>c | none=>.skip,Tryz.f75.ntmps,Tryz.f75.results.toList⟩
noncomputable def ff76:FI:=⟨match Tryz.f76.body with | some c=>c | none=>.skip,Tryz.f76.ntmps,Tryz.f76.results.toList⟩
noncomputable def ff77:FI:=⟨match Tryz.f77.body with | some c=>c | none=>.skip,Tryz.f77.ntmps,Tryz.f77.results.toList⟩
noncomputable def ff78:FI:=⟨match Tryz.f78.body with | some c=>c | none=>.skip,Tryz.f78.ntmps,Tryz.f78.results.toList⟩
noncomputable def ff79:FI:=⟨match Tryz.f79.body with | some c=>c | none=>.skip,Tryz.f79.ntmps,Tryz.f79.results.toList⟩
noncomputable def ff80:FI:=⟨match Tryz.f80.body with | some c=>c | none=>.skip,Tryz.f80.ntmps,Tryz.f80.results.toList⟩
noncomputable def ff81:FI:=⟨match Tryz.f81.body with | some c=>c | none=>.skip,Tryz.f81.ntmps,Tryz.f81.results.toList⟩
noncomputable def ff82:FI:=⟨match Tryz.f82.body with | some c=>c | none=>.skip,Tryz.f82.ntmps,Tryz.f82.results.toList⟩
noncomputable def ff83:FI:=⟨match Tryz.f83.body with | some c=>c | none=>.skip,Tryz.f83.ntmps,Tryz.f83.results.toList⟩
noncomputable def ff84:FI:=⟨match Tryz.f84.body with | some c=>c | none=>.skip,Tryz.f84.ntmps,Tryz.f84.results.toList⟩
noncomputable def ff85:FI:=⟨match Tryz.f85.body with | some c=>c | none=>.skip,Tryz.f85.ntmps,Tryz.f85.results.toList⟩
noncomputable def ff86:FI:=⟨match Tryz.f86.body with | some c=>c | none=>.skip,Tryz.f86.ntmps,Tryz.f86.results.toList⟩
noncomputable def ff87:FI:=⟨match Tryz.f87.body with | some c=>c | none=>.skip,Tryz.f87.ntmps,Tryz.f87.results.toList⟩
noncomputable def ff88:FI:=⟨match Tryz.f88.body with | some c=>c | none=>.skip,Tryz.f88.ntmps,Tryz.f88.results.toList⟩
noncomputable def ff89:FI:=⟨match Tryz.f89.body with | some c=>c | none=>.skip,Tryz.f89.ntmps,Tryz.f89.results.toList⟩
noncomputable def ff90:FI:=⟨match Tryz.f90.body with | some c=>c | none=>.skip,Tryz.f90.ntmps,Tryz.f90.results.toList⟩
noncomputable def ff91:FI:=⟨match Tryz.f91.body with | some c=>c | none=>.skip,Tryz.f91.ntmps,Tryz.f91.results.toList⟩
noncomputable def ff92:FI:=⟨match Tryz.f92.body with | some c=>c | none=>.skip,Tryz.f92.ntmps,Tryz.f92.results.toList⟩
noncomputable def ff93:FI:=⟨match Tryz.f93.body with | some c=>c | none=>.skip,Tryz.f93.ntmps,Tryz.f93.results.toList⟩
noncomputable def ff94:FI:=⟨match Tryz.f94.body with | some c=>c | none=>.skip,Tryz.f94.ntmps,Tryz.f94.results.toList⟩
noncomputable def ff95:FI:=⟨match Tryz.f95.body with | some c=>c | none=>.skip,Tryz.f95.ntmps,Tryz.f95.results.toList⟩
noncomputable def ff96:FI:=⟨match Tryz.f96.body with | some c=>c | none=>.skip,Tryz.f96.ntmps,Tryz.f96.results.toList⟩
noncomputable def ff97:FI:=⟨match Tryz.f97.body with | some c=>c | none=>.skip,Tryz.f97.ntmps,Tryz.f97.results.toList⟩
noncomputable def ff98:FI:=⟨match Tryz.f98.body with | some c=>c | none=>.skip,Tryz.f98.ntmps,Tryz.f98.results.toList⟩
noncomputable def ff99:FI:=⟨match Tryz.f99.body with | some c=>c | none=>.skip,Tryz.f99.ntmps,Tryz.f99.results.toList⟩
noncomputable def ff100:FI:=⟨match Tryz.f100.body with | some c=>c | none=>.skip,Tryz.f100.ntmps,Tryz.f100.results.toList⟩
noncomputable def ff101:FI:=⟨match Tryz.f101.body with | some c=>c | none=>.skip,Tryz.f101.ntmps,Tryz.f101.results.toList⟩
noncomputable def ff102:FI:=⟨match Tryz.f102.body with | some c=>c | none=>.skip,Tryz.f102.ntmps,Tryz.f102.results.toList⟩
noncomputable def ff103:FI:=⟨match Tryz.f103.body with | some c=>c | none=>.skip,Tryz.f103.ntmps,Tryz.f103.results.toList⟩
noncomputable def ff104:FI:=⟨match Tryz.f104.body with | some c=>c | none=>.skip,Tryz.f104.ntmps,Tryz.f104.results.toList⟩
noncomputable def ff105:FI:=⟨match Tryz.f105.body with | some c=>c | none=>.skip,Tryz.f105.ntmps,Tryz.f105.results.toList⟩
noncomputable def ff106:FI:=⟨match Tryz.f106.body with | some c=>c | none=>.skip,Tryz.f106.ntmps,Tryz.f106.results.toList⟩
noncomputable def ff107:FI:=⟨match Tryz.f107.body with | some c=>c | none=>.skip,Tryz.f107.ntmps,Tryz.f107.results.toList⟩
noncomputable def ff108:FI:=⟨match Tryz.f108.body with | some c=>c | none=>.skip,Tryz.f108.ntmps,Tryz.f108.results.toList⟩
noncomputable def ff109:FI:=⟨match Tryz.f109.body with | some c=>c | none=>.skip,Tryz.f109.ntmps,Tryz.f109.results.toList⟩
noncomputable def ff111:FI:=⟨match Tryz.f111.body with | some c=>c | none=>.skip,Tryz.f111.ntmps,Tryz.f111.results.toList⟩
noncomputable def ff112:FI:=⟨match Tryz.f112.body with | some c=>c | none=>.skip,Tryz.f112.ntmps,Tryz.f112.results.toList⟩
noncomputable def ff113:FI:=⟨match Tryz.f113.body with | some c=>c | none=>.skip,Tryz.f113.ntmps,Tryz.f113.results.toList⟩
noncomputable def ff114:FI:=⟨match Tryz.f114.body with | some c=>c | none=>.skip,Tryz.f114.ntmps,Tryz.f114.results.toList⟩
noncomputable def ff115:FI:=⟨match Tryz.f115.body with | some c=>c | none=>.skip,Tryz.f115.ntmps,Tryz.f115.results.toList⟩
noncomputable def ff116:FI:=⟨match Tryz.f116.body with | some c=>c | none=>.skip,Tryz.f116.ntmps,Tryz.f116.results.toList⟩
noncomputable def ff117:FI:=⟨match Tryz.f117.body with | some c=>c | none=>.skip,Tryz.f117.ntmps,Tryz.f117.results.toList⟩
noncomputable def ff118:FI:=⟨match Tryz.f118.body with | some c=>c | none=>.skip,Tryz.f118.ntmps,Tryz.f118.results.toList⟩
noncomputable def ff119:FI:=⟨match Tryz.f119.body with | some c=>c | none=>.skip,Tryz.f119.ntmps,Tryz.f119.results.toList⟩
noncomputable def ff120:FI:=⟨match Tryz.f120.body with | some c=>c | none=>.skip,Tryz.f120.ntmps,Tryz.f120.results.toList⟩
noncomputable def ff121:FI:=⟨match Tryz.f121.body with | some c=>c | none=>.skip,Tryz.f121.ntmps,Tryz.f121.results.toList⟩
noncomputable def ff122:FI:=⟨match Tryz.f122.body with | some c=>c | none=>.skip,Tryz.f122.ntmps,Tryz.f122.results.toList⟩
noncomputable def ff123:FI:=⟨match Tryz.f123.body with | some c=>c | none=>.skip,Tryz.f123.ntmps,Tryz.f123.results.toList⟩
noncomputable def ff124:FI:=⟨match Tryz.f124.body with | some c=>c | none=>.skip,Tryz.f124.ntmps,Tryz.f124.results.toList⟩
noncomputable def ff125:FI:=⟨match Tryz.f125.body with | some c=>c | none=>.skip,Tryz.f125.ntmps,Tryz.f125.results.toList⟩
noncomputable def ff126:FI:=⟨match Tryz.f126.body with | some c=>c | none=>.skip,Tryz.f126.ntmps,Tryz.f126.results.toList⟩
noncomputable def ff127:FI:=⟨match Tryz.f127.body with | some c=>c | none=>.skip,Tryz.f127.ntmps,Tryz.f127.results.toList⟩
noncomputable def ff128:FI:=⟨match Tryz.f128.body with | some c=>c | none=>.skip,Tryz.f128.ntmps,Tryz.f128.results.toList⟩
noncomputable def ff129:FI:=⟨match Tryz.f129.body with | some c=>c | none=>.skip,Tryz.f129.ntmps,Tryz.f129.results.toList⟩
noncomputable def ff130:FI:=⟨match Tryz.f130.body with | some c=>c | none=>.skip,Tryz.f130.ntmps,Tryz.f130.results.toList⟩
noncomputable def ff131:FI:=⟨match Tryz.f131.body with | some c=>c | none=>.skip,Tryz.f131.ntmps,Tryz.f131.results.toList⟩
noncomputable def ff132:FI:=⟨match Tryz.f132.body with | some c=>c | none=>.skip,Tryz.f132.ntmps,Tryz.f132.results.toList⟩
noncomputable def ff133:FI:=⟨match Tryz.f133.body with | some c=>c | none=>.skip,Tryz.f133.ntmps,Tryz.f133.results.toList⟩
noncomputable def ff134:FI:=⟨match Tryz.f134.body with | some c=>c | none=>.skip,Tryz.f134.ntmps,Tryz.f134.results.toList⟩
noncomputable def ff135:FI:=⟨match Tryz.f135.body with | some c=>c | none=>.skip,Tryz.f135.ntmps,Tryz.f135.results.toList⟩
noncomputable def ff136:FI:=⟨match Tryz.f136.body with | some c=>c | none=>.skip,Tryz.f136.ntmps,Tryz.f136.results.toList⟩
noncomputable def ff137:FI:=⟨match Tryz.f137.body with | some c=>c | none=>.skip,Tryz.f137.ntmps,Tryz.f137.results.toList⟩
noncomputable def ff138:FI:=⟨match Tryz.f138.body with | some c=>c | none=>.skip,Tryz.f138.ntmps,Tryz.f138.results.toList⟩
noncomputable def ff139:FI:=⟨match Tryz.f139.body with | some c=>c | none=>.skip,Tryz.f139.ntmps,Tryz.f139.results.toList⟩
noncomputable def ff140:FI:=⟨match Tryz.f140.body with | some c=>c | none=>.skip,Tryz.f140.ntmps,Tryz.f140.results.toList⟩
noncomputable def ff141:FI:=⟨match Tryz.f141.body with | some c=>c | none=>.skip,Tryz.f141.ntmps,Tryz.f141.results.toList⟩
noncomputable def ff142:FI:=⟨match Tryz.f142.body with | some c=>c | none=>.skip,Tryz.f142.ntmps,Tryz.f142.results.toList⟩
noncomputable def ff143:FI:=⟨match Tryz.f143.body with | some c=>c | none=>.skip,Tryz.f143.ntmps,Tryz.f143.results.toList⟩
noncomputable def ff144:FI:=⟨match Tryz.f144.body with | some c=>c | none=>.skip,Tryz.f144.ntmps,Tryz.f144.results.toList⟩
noncomputable def ff145:FI:=⟨match Tryz.f145.body with | some c=>c | none=>.skip,Tryz.f145.ntmps,Tryz.f145.results.toList⟩
noncomputable def ff146:FI:=⟨match Tryz.f146.body with | some c=>c | none=>.skip,Tryz.f146.ntmps,Tryz.f146.results.toList⟩
noncomputable def ff148:FI:=⟨match Tryz.f148.body with | some c=>c | none=>.skip,Tryz.f148.ntmps,Tryz.f148.results.toList⟩
noncomputable def ff149:FI:=⟨match Tryz.f149.body with | some c=>c | none=>.skip,Tryz.f149.ntmps,Tryz.f149.results.toList⟩
noncomputable def ff150:FI:=⟨match Tryz.f150.body with | some c=>c | none=>.skip,Tryz.f150.ntmps,Tryz.f150.results.toList⟩
noncomputable def ff151:FI:=⟨match Tryz.f151.body with | some c=>c | none=>.skip,Tryz.f151.ntmps,Tryz.f151.results.toList⟩
noncomputable def ff152:FI:=⟨match Tryz.f152.body with | some c=>c | none=>.skip,Tryz.f152.ntmps,Tryz.f152.results.toList⟩
noncomputable def ff153:FI:=⟨match Tryz.f153.body with | some c=>c | none=>.skip,Tryz.f153.ntmps,Tryz.f153.results.toList⟩
noncomputable def ff154:FI:=⟨match Tryz.f154.body with | some c=>c | none=>.skip,Tryz.f154.ntmps,Tryz.f154.results.toList⟩
noncomputable def ff155:FI:=⟨match Tryz.f155.body with | some c=>c | none=>.skip,Tryz.f155.ntmps,Tryz.f155.results.toList⟩
noncomputable def ff156:FI:=⟨match Tryz.f156.body with | some c=>c | none=>.skip,Tryz.f156.ntmps,Tryz.f156.results.toList⟩
noncomputable def ff157:FI:=⟨match Tryz.f157.body with | some c=>c | none=>.skip,Tryz.f157.ntmps,Tryz.f157.results.toList⟩
noncomputable def ff158:FI:=⟨match Tryz.f158.body with | some c=>c | none=>.skip,Tryz.f158.ntmps,Tryz.f158.results.toList⟩
noncomputable def ff159:FI:=⟨match Tryz.f159.body with | some c=>c | none=>.skip,Tryz.f159.ntmps,Tryz.f159.results.toList⟩
noncomputable def ff160:FI:=⟨match Tryz.f160.body with | some c=>c | none=>.skip,Tryz.f160.ntmps,Tryz.f160.results.toList⟩
noncomputable def ff161:FI:=⟨match Tryz.f161.body with | some c=>c | none=>.skip,Tryz.f161.ntmps,Tryz.f161.results.toList⟩
noncomputable def ff162:FI:=⟨match Tryz.f162.body with | some c=>c | none=>.skip,Tryz.f162.ntmps,Tryz.f162.results.toList⟩
noncomputable def ff163:FI:=⟨match Tryz.f163.body with | some c=>c | none=>.skip,Tryz.f163.ntmps,Tryz.f163.results.toList⟩
noncomputable def ff164:FI:=⟨match Tryz.f164.body with | some c=>c | none=>.skip,Tryz.f164.ntmps,Tryz.f164.results.toList⟩
noncomputable def ff165:FI:=⟨match Tryz.f165.body with | some c=>c | none=>.skip,Tryz.f165.ntmps,Tryz.f165.results.toList⟩
noncomputable def ff166:FI:=⟨match Tryz.f166.body with | some c=>c | none=>.skip,Tryz.f166.ntmps,Tryz.f166.results.toList⟩
noncomputable def ff167:FI:=⟨match Tryz.f167.body with | some c=>c | none=>.skip,Tryz.f167.ntmps,Tryz.f167.results.toList⟩
noncomputable def ff168:FI:=⟨match Tryz.f168.body with | some c=>c | none=>.skip,Tryz.f168.ntmps,Tryz.f168.results.toList⟩
noncomputable def ff169:FI:=⟨match Tryz.f169.body with | some c=>c | none=>.skip,Tryz.f169.ntmps,Tryz.f169.results.toList⟩
noncomputable def ff170:FI:=⟨match Tryz.f170.body with | some c=>c | none=>.skip,Tryz.f170.ntmps,Tryz.f170.results.toList⟩
noncomputable def ff171:FI:=⟨match Tryz.f171.body with | some c=>c | none=>.skip,Tryz.f171.ntmps,Tryz.f171.results.toList⟩
noncomputable def ff172:FI:=⟨match Tryz.f172.body with | some c=>c | none=>.skip,Tryz.f172.ntmps,Tryz.f172.results.toList⟩
noncomputable def ff173:FI:=⟨match Tryz.f173.body with | some c=>c | none=>.skip,Tryz.f173.ntmps,Tryz.f173.results.toList⟩
noncomputable def ff174:FI:=⟨match Tryz.f174.body with | some c=>c | none=>.skip,Tryz.f174.ntmps,Tryz.f174.results.toList⟩
noncomputable def ff175:FI:=⟨match Tryz.f175.body with | some c=>c | none=>.skip,Tryz.f175.ntmps,Tryz.f175.results.toList⟩
noncomputable def ff177:FI:=⟨match Tryz.f177.body with | some c=>c | none=>.skip,Tryz.f177.ntmps,Tryz.f177.results.toList⟩
noncomputable def ff178:FI:=⟨match Tryz.f178.body with | some c=>c | none=>.skip,Tryz.f178.ntmps,Tryz.f178.results.toList⟩
noncomputable def ff179:FI:=⟨match Tryz.f179.body with | some c=>c | none=>.skip,Tryz.f179.ntmps,Tryz.f179.results.toList⟩
noncomputable def ff180:FI:=⟨match Tryz.f180.body with | some c=>c | none=>.skip,Tryz.f180.ntmps,Tryz.f180.results.toList⟩
noncomputable def ff181:FI:=⟨match Tryz.f181.body with | some c=>c | none=>.skip,Tryz.f181.ntmps,Tryz.f181.results.toList⟩
noncomputable def ff182:FI:=⟨match Tryz.f182.body with | some c=>c | none=>.skip,Tryz.f182.ntmps,Tryz.f182.results.toList⟩
noncomputable def ff183:FI:=⟨match Tryz.f183.body with | some c=>c | none=>.skip,Tryz.f183.ntmps,Tryz.f183.results.toList⟩
noncomputable def ff184:FI:=⟨match Tryz.f184.body with | some c=>c | none=>.skip,Tryz.f184.ntmps,Tryz.f184.results.toList⟩
noncomputable def ff185:FI:=⟨match Tryz.f185.body with | some c=>c | none=>.skip,Tryz.f185.ntmps,Tryz.f185.results.toList⟩
noncomputable def ff186:FI:=⟨match Tryz.f186.body with | some c=>c | none=>.skip,Tryz.f186.ntmps,Tryz.f186.results.toList⟩
noncomputable def ff187:FI:=⟨match Tryz.f187.body with | some c=>c | none=>.skip,Tryz.f187.ntmps,Tryz.f187.results.toList⟩
noncomputable def ff188:FI:=⟨match Tryz.f188.body with | some c=>c | none=>.skip,Tryz.f188.ntmps,Tryz.f188.results.toList⟩
noncomputable def ff189:FI:=⟨match Tryz.f189.body with | some c=>c | none=>.skip,Tryz.f189.ntmps,Tryz.f189.results.toList⟩
noncomputable def ff190:FI:=⟨match Tryz.f190.body with | some c=>c | none=>.skip,Tryz.f190.ntmps,Tryz.f190.results.toList⟩
noncomputable def ff191:FI:=⟨match Tryz.f191.body with | some c=>c | none=>.skip,Tryz.f191.ntmps,Tryz.f191.results.toList⟩
noncomputable def ff192:FI:=⟨match Tryz.f192.body with | some c=>c | none=>.skip,Tryz.f192.ntmps,Tryz.f192.results.toList⟩
noncomputable def ff193:FI:=⟨match Tryz.f193.body with | some c=>c | none=>.skip,Tryz.f193.ntmps,Tryz.f193.results.toList⟩
noncomputable def ff194:FI:=⟨match Tryz.f194.body with | some c=>c | none=>.skip,Tryz.f194.ntmps,Tryz.f194.results.toList⟩
noncomputable def ff195:FI:=⟨match Tryz.f195.body with | some c=>c | none=>.skip,Tryz.f195.ntmps,Tryz.f195.results.toList⟩
noncomputable def ff196:FI:=⟨match Tryz.f196.body with | some c=>c | none=>.skip,Tryz.f196.ntmps,Tryz.f196.results.toList⟩
noncomputable def ff197:FI:=⟨match Tryz.f197.body with | some c=>c | none=>.skip,Tryz.f197.ntmps,Tryz.f197.results.toList⟩
noncomputable def ff198:FI:=⟨match Tryz.f198.body with | some c=>c | none=>.skip,Tryz.f198.ntmps,Tryz.f198.results.toList⟩
noncomputable def ff199:FI:=⟨match Tryz.f199.body with | some c=>c | none=>.skip,Tryz.f199.ntmps,Tryz.f199.results.toList⟩
noncomputable def ff200:FI:=⟨match Tryz.f200.body with | some c=>c | none=>.skip,Tryz.f200.ntmps,Tryz.f200.results.toList⟩
noncomputable def ff201:FI:=⟨match Tryz.f201.body with | some c=>c | none=>.skip,Tryz.f201.ntmps,Tryz.f201.results.toList⟩
noncomputable def ff202:FI:=⟨match Tryz.f202.body with | some c=>c | none=>.skip,Tryz.f202.ntmps,Tryz.f202.results.toList⟩
noncomputable def ff203:FI:=⟨match Tryz.f203.body with | some c=>c | none=>.skip,Tryz.f203.ntmps,Tryz.f203.results.toList⟩
noncomputable def ff204:FI:=⟨match Tryz.f204.body with | some c=>c | none=>.skip,Tryz.f204.ntmps,Tryz.f204.results.toList⟩
noncomputable def ff205:FI:=⟨match Tryz.f205.body with | some c=>c | none=>.skip,Tryz.f205.ntmps,Tryz.f205.results.toList⟩
noncomputable def ff206:FI:=⟨match Tryz.f206.body with | some c=>c | none=>.skip,Tryz.f206.ntmps,Tryz.f206.results.toList⟩
noncomputable def ff207:FI:=⟨match Tryz.f207.body with | some c=>c | none=>.skip,Tryz.f207.ntmps,Tryz.f207.results.toList⟩
noncomputable def ff208:FI:=⟨match Tryz.f208.body with | some c=>c | none=>.skip,Tryz.f208.ntmps,Tryz.f208.results.toList⟩
noncomputable def ff210:FI:=⟨match Tryz.f210.body with | some c=>c | none=>.skip,Tryz.f210.ntmps,Tryz.f210.results.toList⟩
noncomputable def ff212:FI:=⟨match Tryz.f212.body with | some c=>c | none=>.skip,Tryz.f212.ntmps,Tryz.f212.results.toList⟩
noncomputable def ff213:FI:=⟨match Tryz.f213.body with | some c=>c | none=>.skip,Tryz.f213.ntmps,Tryz.f213.results.toList⟩
noncomputable def ff214:FI:=⟨match Tryz.f214.body with | some c=>c | none=>.skip,Tryz.f214.ntmps,Tryz.f214.results.toList⟩
noncomputable def ff215:FI:=⟨match Tryz.f215.body with | some c=>c | none=>.skip,Tryz.f215.ntmps,Tryz.f215.results.toList⟩
noncomputable def ff216:FI:=⟨match Tryz.f216.body with | some c=>c | none=>.skip,Tryz.f216.ntmps,Tryz.f216.results.toList⟩
noncomputable def ff217:FI:=⟨match Tryz.f217.body with | some c=>c | none=>.skip,Tryz.f217.ntmps,Tryz.f217.results.toList⟩
noncomputable def ff218:FI:=⟨match Tryz.f218.body with | some c=>c | none=>.skip,Tryz.f218.ntmps,Tryz.f218.results.toList⟩
noncomputable def ff219:FI:=⟨match Tryz.f219.body with | some c=>c | none=>.skip,Tryz.f219.ntmps,Tryz.f219.results.toList⟩
noncomputable def ff220:FI:=⟨match Tryz.f220.body with | some c=>c | none=>.skip,Tryz.f220.ntmps,Tryz.f220.results.toList⟩
noncomputable def ff221:FI:=⟨match Tryz.f221.body with | some c=>c | none=>.skip,Tryz.f221.ntmps,Tryz.f221.results.toList⟩
noncomputable def ff222:FI:=⟨match Tryz.f222.body with | some c=>c | none=>.skip,Tryz.f222.ntmps,Tryz.f222.results.toList⟩
noncomputable def ff223:FI:=⟨match Tryz.f223.body with | some c=>c | none=>.skip,Tryz.f223.ntmps,Tryz.f223.results.toList⟩
noncomputable def ff224:FI:=⟨match Tryz.f224.body with | some c=>c | none=>.skip,Tryz.f224.ntmps,Tryz.f224.results.toList⟩
noncomputable def ff225:FI:=⟨match Tryz.f225.body with | some c=>c | none=>.skip,Tryz.f225.ntmps,Tryz.f225.results.toList⟩
noncomputable def ff226:FI:=⟨match Tryz.f226.body with | some c=>c | none=>.skip,Tryz.f226.ntmps,Tryz.f226.results.toList⟩
noncomputable def ff227:FI:=⟨match Tryz.f227.body with | some c=>c | none=>.skip,Tryz.f227.ntmps,Tryz.f227.results.toList⟩
noncomputable def ff228:FI:=⟨match Tryz.f228.body with | some c=>c | none=>.skip,Tryz.f228.ntmps,Tryz.f228.results.toList⟩
noncomputable def ff230:FI:=⟨match Tryz.f230.body with | some c=>c | none=>.skip,Tryz.f230.ntmps,Tryz.f230.results.toList⟩
noncomputable def ff231:FI:=⟨match Tryz.f231.body with | some c=>c | none=>.skip,Tryz.f231.ntmps,Tryz.f231.results.toList⟩
noncomputable def ff232:FI:=⟨match Tryz.f232.body with | some c=>c | none=>.skip,Tryz.f232.ntmps,Tryz.f232.results.toList⟩
noncomputable def ff233:FI:=⟨match Tryz.f233.body with | some c=>c | none=>.skip,Tryz.f233.ntmps,Tryz.f233.results.toList⟩
noncomputable def ff234:FI:=⟨match Tryz.f234.body with | some c=>c | none=>.skip,Tryz.f234.ntmps,Tryz.f234.results.toList⟩
noncomputable def ff264:FI:=⟨match Tryz.f264.body with | some c=>c | none=>.skip,Tryz.f264.ntmps,Tryz.f264.results.toList⟩
noncomputable def ty:Go.Run.En (Option TI):=(.node (.node (.node (.node (.node (.node (.node (.node (.node (.leaf (some ⟨1,0,(.tup []),.other,[]⟩)) (.leaf (some ⟨1,8,.nfunc,.func,[]⟩))) (.node (.leaf (some ⟨1,8,.nfunc,.func,[]⟩)) (.leaf none))) (.node (.node (.leaf (some ⟨1,8,.nfunc,.func,[]⟩)) (.leaf none)) (.node (.leaf (some ⟨1,8,.nfunc,.func,[]⟩)) (.leaf none)))) (.node (.node (.node (.leaf (some ⟨1,8,.nfunc,.func,[]⟩)) (.leaf none)) (.node (.leaf (some ⟨1,8,.nmap,(.map 162 2),[]⟩)) (.leaf none))) (.node (.node (.leaf (some ⟨1,8,.nptr,(.ptr 150),[]⟩)) (.leaf none)) (.leaf none)))) (.node (.node (.node (.node (.leaf (some ⟨1,8,.nptr,(.ptr 273),[]⟩)) (.leaf (some ⟨0,0,(.agg []),(.strct [(0,271,0)]),[]⟩))) (.node (.leaf (some ⟨1,8,.nfunc,.func,[]⟩)) (.leaf none))) (.node (.node (.leaf (some ⟨1,8,.nfunc,.func,[]⟩)) (.leaf none)) (.leaf none))) (.node (.node (.node (.leaf (some ⟨1,8,.nfunc,.func,[]⟩)) (.leaf none)) (.node (.leaf (some ⟨256,256,(.agg (rep 256 [(.bool false)])),(.array 256 4),[]⟩)) (.leaf none))) (.node (.node (.leaf (some ⟨1,8,.nfunc,.func,[]⟩)) (.leaf none)) (.node (.leaf (some ⟨1,8,.nfunc,.func,[]⟩)) (.leaf none)))))) (.node (.node (.node (.node (.node (.leaf (some ⟨4,24,(.agg [(.int .i64 0),(.int .i64 0),(.bool false),(.int .u8 0)]),(.strct [(0,2,1),(1,3,1),(2,4,1),(3,6,1)]),[]⟩)) (.leaf none)) (.node (.leaf (some ⟨1,8,.nfunc,.func,[]⟩)) (.leaf none))) (.node (.node (.leaf (some ⟨1,8,.nfunc,.func,[]⟩)) (.leaf none)) (.node (.leaf (some ⟨1,8,.nfunc,.func,[]⟩)) (.leaf none)))) (.node (.node (.node (.leaf (some ⟨1,24,.nslice,(.slice 3),[]⟩)) (.leaf none)) (.node (.leaf (some ⟨1,8,.nfunc,.func,[]⟩)) (.leaf none))) (.node (.node (.leaf (some ⟨8,64,(.agg [(.int .i64 0),(.int .i64 0),(.int .i64 0),(.int .i64 0),(.int .i64 0),(.int .i64 0),(.int .i64 0),(.int .i64 0)]),(.array 8 2),(List.replicate 8 .i)⟩)) (.leaf none)) (.node (.leaf (some ⟨1,8,.nfunc,.func,[]⟩)) (.leaf none))))) (.node (.node (.node (.node (.leaf (some ⟨3,40,(.agg [(.int .i64 0),(.int .i64 0),.nslice]),(.strct [(0,3,1),(1,3,1),(2,22,1)]),[]⟩)) (.leaf (some ⟨11,48,(.agg [(.int .u64 0),(.int .u64 0),(.int .u32 0),(.int .u8 0),(.int .u8 0),(.int .u8 0),(.int .u8 0),.nfunc,.nptr,(.int .i32 0),(.int .i32 0)]),(.strct [(0,12,1),(1,12,1),(2,227,1),(3,275,1),(4,5,1),(5,5,1),(6,276,1),(7,277,1),(8,155,1),(9,278,1),(10,279,1)]),[]⟩))) (.node (.leaf (some ⟨1,8,.nfunc,.func,[]⟩)) (.leaf none))) (.node (.node (.leaf (some ⟨1,8,.nfunc,.func,[]⟩)) (.leaf none)) (.node (.leaf (some ⟨1,8,.nfunc,.func,[]⟩)) (.leaf none)))) (.node (.node (.leaf none) (.node (.leaf (some ⟨1,8,.nfunc,.func,[]⟩)) (.leaf none))) (.node (.node (.leaf (some ⟨1,8,.nfunc,.func,[]⟩)) (.leaf none)) (.node (.leaf (some ⟨1,8,.nptr,(.ptr 3),[]⟩)) (.leaf none))))))) (.node (.node (.node (.node (.node (.node (.leaf (some ⟨1,1,(.bool false),.bool,[]⟩)) (.leaf (some ⟨1,8,.nptr,(.ptr 262),[]⟩))) (.node (.leaf (some ⟨1,8,.nfunc,.func,[]⟩)) (.leaf none))) (.node (.leaf none) (.node (.leaf (some ⟨1,8,(.int .u64 0),(.int .u64),[]⟩)) (.leaf none)))) (.node (.node (.node (.leaf (some ⟨1,8,.nfunc,.func,[]⟩)) (.leaf none)) (.node (.leaf (some ⟨1,8,.nfunc,.func,[]⟩)) (.leaf none))) (.node (.node (.leaf (some ⟨1,8,.nfunc,.func,[]⟩)) (.leaf none)) (.node (.leaf (some ⟨1,8,.nfunc,.func,[]⟩)) (.leaf none))))) (.node (.node (.node (.node (.leaf (some ⟨1,16,.niface,.iface,[]⟩)) (.leaf (some ⟨1,1,(.int .u8 0),(.int .u8),[]⟩))) (.node (.leaf (some ⟨1,8,.nfunc,.func,[]⟩)) (.leaf none))) (.node (.node (.leaf (some ⟨1,8,.nfunc,.func,[]⟩)) (.leaf none)) (.leaf none))) (.node (.node (.node (.leaf (some ⟨1,8,.nfunc,.func,[]⟩)) (.leaf none)) (.node (.leaf (some ⟨1,8,.nfunc,.func,[]⟩)) (.leaf none))) (.node (.node (.leaf (some ⟨1,16,.niface,.iface,[]⟩)) (.leaf none)) (.node (.leaf (some ⟨1,8,(.int .u64 0),(.int .u64),[]⟩)) (.leaf none)))))) (.node (.node (.node (.node (.node (.leaf (some ⟨1,8,(.int .u64 0),(.int .u64),[]⟩)) (.leaf (some ⟨64,64,(.agg (rep 64 [(.int .u8 0)])),(.array 64 5),[]⟩))) (.node (.leaf (some ⟨1,8,.nfunc,.func,[]⟩)) (.leaf none))) (.node (.node (.leaf (some ⟨1,8,.nfunc,.func,[]⟩)) (.leaf none)) (.node (.leaf (some ⟨24,24,(.agg (rep 24 [(.int .u8 0)])),(.array 24 5),[]⟩)) (.leaf none)))) (.node (.node (.node (.leaf (some ⟨1,8,.nfunc,.func,[]⟩)) (.leaf none)) (.node (.leaf (some ⟨1,8,.nptr,(.ptr 104),[]⟩)) (.leaf none))) (.node (.node (.leaf (some ⟨1,8,.nfunc,.func,[]⟩)) (.leaf none)) (.node (.leaf (some ⟨20,160,(.agg (rep 20 [(.int .u64 0)])),(.array 20 205),[]⟩)) (.leaf none))))) (.node (.node (.node (.node (.leaf (some ⟨1,8,.nfunc,.func,[]⟩)) (.leaf none)) (.node (.leaf (some ⟨1,8,.nfunc,.func,[]⟩)) (.leaf none))) (.node (.node (.leaf (some ⟨1,8,.nfunc,.func,[]⟩)) (.leaf none)) (.leaf none))) (.node (.node (.node (.leaf (some ⟨1,8,.nfunc,.func,[]⟩)) (.leaf none)) (.leaf none)) (.node (.leaf none) (.node (.leaf (some ⟨256,256,(.agg (rep 256 [(.int .u8 0)])),(.array 256 5),[]⟩)) (.leaf none)))))))) (.node (.node (.node (.node (.node (.node (.node (.leaf (some ⟨1,8,(.int .i64 0),(.int .i64),[]⟩)) (.leaf (some ⟨1,8,.nfunc,.func,[]⟩))) (.node (.leaf (some ⟨1,8,.nfunc,.func,[]⟩)) (.leaf none))) (.node (.node (.leaf (some ⟨1,8,.nfunc,.func,[]⟩)) (.leaf none)) (.node (.leaf (some ⟨1,8,.nfunc,.func,[]⟩)) (.leaf none)))) (.node (.node (.node (.leaf (some ⟨1,8,.nfunc,.func,[]⟩)) (.leaf none)) (.node (.leaf (some ⟨1,8,(.agg [(.int .i64 0)]),(.strct [(0,3,1)]),[.i]⟩)) (.leaf none))) (.node (.node (.leaf (some ⟨1,8,.nfunc,.func,[]⟩)) (.leaf none)) (.node (.leaf (some ⟨1,8,.nfunc,.func,[]⟩)) (.leaf none))))) (.node (.node (.node (.node (.leaf (some ⟨1,8,(.agg [.nptr]),(.strct [(0,17,1)]),[]⟩)) (.leaf (some ⟨1,8,.nfunc,.func,[]⟩))) (.node (.leaf (some ⟨1,8,.nfunc,.func,[]⟩)) (.leaf none))) (.node (.node (.leaf (some ⟨1,8,.nfunc,.func,[]⟩)) (.leaf none)) (.node (.leaf (some ⟨1,8,.nfunc,.func,[]⟩)) (.leaf none)))) (.node (.node (.node (.leaf (some ⟨1,8,.nfunc,.func,[]⟩)) (.leaf none)) (.leaf none)) (.node (.node (.leaf (some ⟨2,32,(.agg [.nptr,.nslice]),(.strct [(0,113,1),(1,62,1)]),[]⟩)) (.leaf none)) (.node (.leaf (some ⟨3,48,(.agg [(.str []),(.str []),.niface]),(.strct [(0,9,1),(1,9,1),(2,117,1)]),[]⟩)) (.leaf none)))))) (.node (.node (.node (.node (.node (.leaf (some ⟨1,16,(.str []),.string,[]⟩)) (.leaf (some ⟨1,8,.nfunc,.func,[]⟩))) (.node (.leaf (some ⟨3,24,(.agg [(.int .i64 0),(.int .i64 0),(.int .i64 0)]),(.strct [(0,3,1),(1,3,1),(2,2,1)]),[]⟩)) (.leaf none))) (.node (.node (.leaf (some ⟨1,8,.nfunc,.func,[]⟩)) (.leaf none)) (.node (.leaf (some ⟨1,8,.nfunc,.func,[]⟩)) (.leaf none)))) (.node (.node (.node (.leaf (some ⟨1,8,.nfunc,.func,[]⟩)) (.leaf none)) (.node (.leaf (some ⟨1,8,.nfunc,.func,[]⟩)) (.leaf none))) (.node (.node (.leaf (some ⟨1,8,.nfunc,.func,[]⟩)) (.leaf none)) (.node (.leaf (some ⟨1,8,.nfunc,.func,[]⟩)) (.leaf none))))) (.node (.node (.node (.node (.leaf (some ⟨4,32,(.agg [(.int .i64 0),(.int .i64 0),(.int .i64 0),(.int .i64 0)]),(.strct [(0,3,1),(1,3,1),(2,3,1),(3,2,1)]),[.i,.i,.i,.i]⟩)) (.leaf none)) (.node (.leaf (some ⟨1,8,.nfunc,.func,[]⟩)) (.leaf none))) (.node (.node (.leaf (some ⟨1,8,.nfunc,.func,[]⟩)) (.leaf none)) (.node (.leaf (some ⟨1,8,.nfunc,.func,[]⟩)) (.leaf none)))) (.node (.node (.node (.leaf (some ⟨1,8,.nfunc,.func,[]⟩)) (.leaf none)) (.node (.leaf (some ⟨1,8,.nfunc,.func,[]⟩)) (.leaf none))) (.node (.node (.leaf (some ⟨1,8,.nfunc,.func,[]⟩)) (.leaf none)) (.node (.leaf (some ⟨1,8,.nfunc,.func,[]⟩)) (.leaf none))))))) (.node (.node (.node (.node (.node (.node (.leaf (some ⟨1,1,(.int .u8 0),(.int .u8),[]⟩)) (.leaf (some ⟨1,16,(.agg [(.str [])]),(.strct [(0,9,1)]),[]⟩))) (.node (.leaf (some ⟨1,8,.nfunc,.func,[]⟩)) (.leaf none))) (.node (.node (.leaf (some ⟨1,8,.nfunc,.func,[]⟩)) (.leaf none)) (.node (.leaf (some ⟨1,8,.nfunc,.func,[]⟩)) (.leaf none)))) (.node (.node (.leaf none) (.node (.leaf (some ⟨1,8,.nfunc,.func,[]⟩)) (.leaf none))) (.node (.node (.leaf (some ⟨1,8,.nfunc,.func,[]⟩)) (.leaf none)) (.node (.leaf (some ⟨1,8,.nfunc,.func,[]⟩)) (.leaf none))))) (.node (.node (.node (.node (.leaf (some ⟨1,24,.nslice,(.slice 26),[]⟩)) (.leaf (some ⟨1,4,(.int .i32 0),(.int .i32),[]⟩))) (.node (.leaf (some ⟨3,40,(.agg [(.int .i64 0),(.int .i64 0),.nslice]),(.strct [(0,24,3)]),[]⟩)) (.leaf none))) (.node (.node (.leaf (some ⟨1,8,.nfunc,.func,[]⟩)) (.leaf none)) (.node (.leaf (some ⟨1,8,.nptr,(.ptr 242),[]⟩)) (.leaf none)))) (.node (.node (.leaf none) (.node (.leaf (some ⟨1,8,.nptr,.other,[]⟩)) (.leaf none))) (.node (.leaf none) (.node (.leaf (some ⟨1,8,.nfunc,.func,[]⟩)) (.leaf none)))))) (.node (.node (.node (.node (.node (.leaf (some ⟨2,24,(.agg [(.str []),(.int .u64 0)]),(.strct [(0,9,1),(1,12,1)]),[]⟩)) (.leaf (some ⟨4,40,(.agg [.nptr,.nptr,.nptr,(.str [])]),(.strct [(0,17,1),(1,17,1),(2,17,1),(3,9,1)]),[]⟩))) (.node (.leaf (some ⟨1,8,.nfunc,.func,[]⟩)) (.leaf none))) (.node (.node (.leaf (some ⟨1,8,.nfunc,.func,[]⟩)) (.leaf none)) (.node (.leaf (some ⟨1,8,.nfunc,.func,[]⟩)) (.leaf none)))) (.node (.node (.leaf none) (.node (.leaf (some ⟨1,8,.nfunc,.func,[]⟩)) (.leaf none))) (.node (.node (.leaf (some ⟨1,8,.nfunc,.func,[]⟩)) (.leaf none)) (.node (.leaf (some ⟨1,8,.nfunc,.func,[]⟩)) (.leaf none))))) (.node (.node (.node (.leaf none) (.node (.leaf (some ⟨1,8,.nfunc,.func,[]⟩)) (.leaf none))) (.node (.node (.leaf (some ⟨1,8,.nfunc,.func,[]⟩)) (.leaf none)) (.node (.leaf (some ⟨1,8,.nfunc,.func,[]⟩)) (.leaf none)))) (.node (.node (.node (.leaf (some ⟨1,24,.nslice,(.slice 5),[]⟩)) (.leaf none)) (.leaf none)) (.node (.node (.leaf (some ⟨1,8,.nfunc,.func,[]⟩)) (.leaf none)) (.node (.leaf (some ⟨2,2,(.agg [(.int .u8 0),(.int .u8 0)]),(.strct [(0,5,1),(1,5,1)]),[]⟩)) (.leaf none))))))))) (.node (.node (.node (.node (.node (.node (.node (.node (.leaf (some ⟨1,8,.nfunc,.func,[]⟩)) (.leaf none)) (.node (.leaf (some ⟨1,8,.nfunc,.func,[]⟩)) (.leaf none))) (.node (.node (.leaf (some ⟨1,24,.nslice,(.slice 9),[]⟩)) (.leaf none)) (.node (.leaf (some ⟨1,8,.nfunc,.func,[]⟩)) (.leaf none)))) (.node (.node (.node (.leaf (some ⟨1,8,.nfunc,.func,[]⟩)) (.leaf none)) (.node (.leaf (some ⟨1,8,(.agg [(.int .i64 0)]),(.strct [(0,3,1)]),[]⟩)) (.leaf none))) (.node (.leaf none) (.node (.leaf (some ⟨1,8,.nfunc,.func,[]⟩)) (.leaf none))))) (.node (.node (.node (.node (.leaf (some ⟨1,8,.nptr,(.ptr 281),[]⟩)) (.leaf (some ⟨0,0,(.agg []),(.strct [(0,271,0)]),[]⟩))) (.node (.leaf (some ⟨1,8,.nfunc,.func,[]⟩)) (.leaf none))) (.node (.leaf none) (.node (.leaf (some ⟨1,8,.nfunc,.func,[]⟩)) (.leaf none)))) (.node (.node (.node (.leaf (some ⟨1,8,.nfunc,.func,[]⟩)) (.leaf none)) (.node (.leaf (some ⟨256,256,(.agg (rep 256 [(.bool false)])),(.array 256 4),[]⟩)) (.leaf none))) (.node (.node (.leaf (some ⟨1,8,.nptr,(.ptr 115),[]⟩)) (.leaf none)) (.node (.leaf (some ⟨3,48,(.agg [(.str []),(.str []),.niface]),(.strct [(0,9,1),(1,9,1),(2,117,1)]),[]⟩)) (.leaf none)))))) (.node (.node (.node (.node (.node (.leaf (some ⟨1,16,(.str []),.string,[]⟩)) (.leaf (some ⟨1,8,.nfunc,.func,[]⟩))) (.node (.leaf (some ⟨1,8,.nfunc,.func,[]⟩)) (.leaf none))) (.node (.node (.leaf (some ⟨1,24,.nslice,(.slice 40),[]⟩)) (.leaf none)) (.leaf none))) (.node (.node (.leaf none) (.node (.leaf (some ⟨1,8,.nfunc,.func,[]⟩)) (.leaf none))) (.node (.node (.leaf (some ⟨1,8,.nfunc,.func,[]⟩)) (.leaf none)) (.node (.leaf (some ⟨1,8,.nfunc,.func,[]⟩)) (.leaf none))))) (.node (.node (.node (.node (.leaf (some ⟨4,32,(.agg [(.int .i64 0),(.int .i64 0),(.int .i64 0),(.int .i64 0)]),(.strct [(0,3,1),(1,3,1),(2,3,1),(3,2,1)]),[]⟩)) (.leaf (some ⟨11,48,(.agg [(.int .u64 0),(.int .u64 0),(.int .u32 0),(.int .u8 0),(.int .u8 0),(.int .u8 0),(.int .u8 0),.nfunc,.nptr,(.int .i32 0),(.int .i32 0)]),(.strct [(0,12,1),(1,12,1),(2,227,1),(3,275,1),(4,5,1),(5,5,1),(6,276,1),(7,277,1),(8,155,1),(9,278,1),(10,279,1)]),[]⟩))) (.node (.leaf (some ⟨1,8,.nfunc,.func,[]⟩)) (.leaf none))) (.node (.node (.leaf (some ⟨1,8,.nfunc,.func,[]⟩)) (.leaf none)) (.node (.leaf (some ⟨1,8,.nfunc,.func,[]⟩)) (.leaf none)))) (.node (.node (.node (.leaf (some ⟨1,8,.nfunc,.func,[]⟩)) (.leaf none)) (.node (.leaf (some ⟨1,8,.nfunc,.func,[]⟩)) (.leaf none))) (.node (.node (.leaf (some ⟨1,8,.nfunc,.func,[]⟩)) (.leaf none)) (.node (.leaf (some ⟨1,8,.nfunc,.func,[]⟩)) (.leaf none))))))) (.node (.node (.node (.node (.node (.node (.leaf (some ⟨1,1,(.int .u8 0),(.int .u8),[]⟩)) (.leaf (some ⟨1,16,(.agg [(.str [])]),(.strct [(0,9,1)]),[]⟩))) (.node (.leaf (some ⟨1,8,.nfunc,.func,[]⟩)) (.leaf none))) (.node (.node (.leaf (some ⟨1,8,.nfunc,.func,[]⟩)) (.leaf none)) (.node (.leaf (some ⟨1,8,.nfunc,.func,[]⟩)) (.leaf none)))) (.node (.node (.node (.leaf (some ⟨1,24,.nslice,(.slice 2),[]⟩)) (.leaf none)) (.node (.leaf (some ⟨1,8,.nmap,(.map 162 163),[]⟩)) (.leaf none))) (.node (.node (.leaf (some ⟨1,8,.nfunc,.func,[]⟩)) (.leaf none)) (.node (.leaf (some ⟨1,8,.nfunc,.func,[]⟩)) (.leaf none))))) (.node (.node (.node (.node (.leaf (some ⟨1,4,(.int .i32 0),(.int .i32),[]⟩)) (.leaf (some ⟨1,8,.nfunc,.func,[]⟩))) (.node (.leaf (some ⟨3,40,(.agg [(.int .i64 0),(.int .i64 0),.nslice]),(.strct [(0,24,3)]),[]⟩)) (.leaf none))) (.node (.node (.leaf (some ⟨1,8,.nfunc,.func,[]⟩)) (.leaf none)) (.node (.leaf (some ⟨1,8,.nfunc,.func,[]⟩)) (.leaf none)))) (.node (.node (.node (.leaf (some ⟨1,8,.nfunc,.func,[]⟩)) (.leaf none)) (.node (.leaf (some ⟨1,8,.nptr,(.ptr 177),[]⟩)) (.leaf none))) (.node (.node (.leaf (some ⟨1,16,.niface,.iface,[]⟩)) (.leaf none)) (.node (.leaf (some ⟨1,8,.nfunc,.func,[]⟩)) (.leaf none)))))) (.node (.node (.node (.node (.node (.leaf (some ⟨2,24,(.agg [(.str []),(.int .u64 0)]),(.strct [(0,9,1),(1,12,1)]),[]⟩)) (.leaf (some ⟨4,40,(.agg [.nptr,.nptr,.nptr,(.str [])]),(.strct [(0,17,1),(1,17,1),(2,17,1),(3,9,1)]),[]⟩))) (.node (.leaf (some ⟨1,8,.nfunc,.func,[]⟩)) (.leaf none))) (.node (.node (.leaf (some ⟨1,24,.nslice,(.slice 139),[]⟩)) (.leaf none)) (.node (.leaf (some ⟨1,8,(.int .u64 0),(.int .u64),[]⟩)) (.leaf none)))) (.node (.node (.node (.leaf (some ⟨1,8,.nfunc,.func,[]⟩)) (.leaf none)) (.node (.leaf (some ⟨1,8,.nfunc,.func,[]⟩)) (.leaf none))) (.node (.node (.leaf (some ⟨1,8,.nfunc,.func,[]⟩)) (.leaf none)) (.node (.leaf (some ⟨65,65,(.agg (rep 65 [(.int .u8 0)])),(.array 65 5),[]⟩)) (.leaf none))))) (.node (.node (.node (.node (.leaf (some ⟨1,8,(.int .i64 0),(.int .i64),[]⟩)) (.leaf none)) (.node (.leaf (some ⟨1,8,.nfunc,.func,[]⟩)) (.leaf none))) (.node (.node (.leaf (some ⟨1,8,.nfunc,.func,[]⟩)) (.leaf none)) (.node (.leaf (some ⟨1,8,.nfunc,.func,[]⟩)) (.leaf none)))) (.node (.node (.node (.leaf (some ⟨1,8,.nfunc,.func,[]⟩)) (.leaf none)) (.node (.leaf (some ⟨1,24,.nslice,(.slice 163),[]⟩)) (.leaf none))) (.node (.node (.leaf (some ⟨1,8,.nfunc,.func,[]⟩)) (.leaf none)) (.node (.leaf (some ⟨2,2,(.agg [(.int .u8 0),(.int .u8 0)]),(.strct [(0,5,1),(1,5,1)]),[]⟩)) (.leaf none)))))))) (.node (.node (.node (.node (.node (.node (.node (.leaf (some ⟨1,8,(.int .i64 0),(.int .i64),[]⟩)) (.leaf (some ⟨1,8,.nfunc,.func,[]⟩))) (.node (.leaf (some ⟨1,8,.nfunc,.func,[]⟩)) (.leaf none))) (.node (.node (.leaf (some ⟨1,8,.nfunc,.func,[]⟩)) (.leaf none)) (.node (.leaf (some ⟨1,8,.nfunc,.func,[]⟩)) (.leaf none)))) (.node (.node (.node (.leaf (some ⟨1,8,.nfunc,.func,[]⟩)) (.leaf none)) (.node (.leaf (some ⟨1,24,.nslice,(.slice 162),[]⟩)) (.leaf none))) (.node (.node (.leaf (some ⟨1,8,.nfunc,.func,[]⟩)) (.leaf none)) (.node (.leaf (some ⟨1,4,(.int .u32 0),(.int .u32),[]⟩)) (.leaf none))))) (.node (.node (.node (.node (.leaf (some ⟨1,8,(.agg [.nptr]),(.strct [(0,17,1)]),[]⟩)) (.leaf (some ⟨1,1,(.int .u8 0),(.int .u8),[]⟩))) (.node (.leaf (some ⟨1,8,.nfunc,.func,[]⟩)) (.leaf none))) (.node (.leaf none) (.node (.leaf (some ⟨1,8,(.int .i64 0),(.int .i64),[]⟩)) (.leaf none)))) (.node (.node (.node (.leaf (some ⟨1,8,.nfunc,.func,[]⟩)) (.leaf none)) (.node (.leaf (some ⟨1,8,.nfunc,.func,[]⟩)) (.leaf none))) (.node (.node (.leaf (some ⟨2,32,(.agg [.nptr,.nslice]),(.strct [(0,113,1),(1,62,1)]),[]⟩)) (.leaf none)) (.node (.leaf (some ⟨1,8,.nfunc,.func,[]⟩)) (.leaf none)))))) (.node (.node (.node (.node (.node (.leaf (some ⟨1,16,(.str []),.string,[]⟩)) (.leaf (some ⟨32,32,(.agg (rep 32 [(.int .u8 0)])),(.array 32 5),[]⟩))) (.node (.leaf (some ⟨3,24,(.agg [(.int .i64 0),(.int .i64 0),(.int .i64 0)]),(.strct [(0,3,1),(1,3,1),(2,2,1)]),[]⟩)) (.leaf none))) (.node (.node (.leaf (some ⟨1,8,.nfunc,.func,[]⟩)) (.leaf none)) (.node (.leaf (some ⟨1,8,.nfunc,.func,[]⟩)) (.leaf none)))) (.node (.node (.node (.leaf (some ⟨1,8,.nfunc,.func,[]⟩)) (.leaf none)) (.node (.leaf (some ⟨1,8,.nfunc,.func,[]⟩)) (.leaf none))) (.node (.node (.leaf (some ⟨1,8,.nfunc,.func,[]⟩)) (.leaf none)) (.node (.leaf (some ⟨1,8,.nfunc,.func,[]⟩)) (.leaf none))))) (.node (.node (.node (.node (.leaf (some ⟨1,8,.nfunc,.func,[]⟩)) (.leaf none)) (.node (.leaf (some ⟨1,8,.nptr,(.ptr 5),[]⟩)) (.leaf none))) (.node (.node (.leaf (some ⟨1,8,.nfunc,.func,[]⟩)) (.leaf none)) (.node (.leaf (some ⟨1,8,(.int .i64 0),(.int .i64),[]⟩)) (.leaf none)))) (.node (.node (.node (.leaf (some ⟨1,8,.nfunc,.func,[]⟩)) (.leaf none)) (.node (.leaf (some ⟨1,8,.nfunc,.func,[]⟩)) (.leaf none))) (.node (.node (.leaf (some ⟨1,8,.nfunc,.func,[]⟩)) (.leaf none)) (.node (.leaf (some ⟨1,8,.nfunc,.func,[]⟩)) (.leaf none))))))) (.node (.node (.node (.node (.node (.node (.leaf (some ⟨4,24,(.agg [(.int .i64 0),(.int .i64 0),(.bool false),(.int .u8 0)]),(.strct [(0,2,1),(1,3,1),(2,4,1),(3,6,1)]),[]⟩)) (.leaf (some ⟨1,8,.nptr,(.ptr 244),[]⟩))) (.node (.leaf (some ⟨1,8,.nfunc,.func,[]⟩)) (.leaf none))) (.node (.node (.leaf (some ⟨1,8,.nfunc,.func,[]⟩)) (.leaf none)) (.node (.leaf (some ⟨1,8,.nfunc,.func,[]⟩)) (.leaf none)))) (.node (.node (.node (.leaf (some ⟨1,8,.nfunc,.func,[]⟩)) (.leaf none)) (.node (.leaf (some ⟨1,8,.nfunc,.func,[]⟩)) (.leaf none))) (.node (.node (.leaf (some ⟨8,64,(.agg [(.int .i64 0),(.int .i64 0),(.int .i64 0),(.int .i64 0),(.int .i64 0),(.int .i64 0),(.int .i64 0),(.int .i64 0)]),(.array 8 2),[]⟩)) (.leaf none)) (.node (.leaf (some ⟨1,8,.nfunc,.func,[]⟩)) (.leaf none))))) (.node (.node (.node (.node (.leaf (some ⟨3,40,(.agg [(.int .i64 0),(.int .i64 0),.nslice]),(.strct [(0,3,1),(1,3,1),(2,22,1)]),[]⟩)) (.leaf (some ⟨1,4,(.int .i32 0),(.int .i32),[]⟩))) (.node (.leaf (some ⟨1,8,.nfunc,.func,[]⟩)) (.leaf none))) (.node (.node (.leaf (some ⟨1,8,.nfunc,.func,[]⟩)) (.leaf none)) (.node (.leaf (some ⟨1,8,.nfunc,.func,[]⟩)) (.leaf none)))) (.node (.node (.node (.leaf (some ⟨1,8,.nfunc,.func,[]⟩)) (.leaf none)) (.node (.leaf (some ⟨1,8,.nfunc,.func,[]⟩)) (.leaf none))) (.node (.node (.leaf (some ⟨1,8,.nfunc,.func,[]⟩)) (.leaf none)) (.node (.leaf (some ⟨1,8,.nfunc,.func,[]⟩)) (.leaf none)))))) (.node (.node (.node (.node (.node (.leaf (some ⟨1,8,.nptr,(.ptr 270),[]⟩)) (.leaf (some ⟨0,0,(.agg []),(.array 0 16),[]⟩))) (.node (.leaf (some ⟨1,8,.nfunc,.func,[]⟩)) (.leaf none))) (.node (.node (.leaf (some ⟨1,8,.nfunc,.func,[]⟩)) (.leaf none)) (.node (.leaf (some ⟨1,8,.nfunc,.func,[]⟩)) (.leaf none)))) (.node (.node (.node (.leaf (some ⟨1,8,.nfunc,.func,[]⟩)) (.leaf none)) (.node (.leaf (some ⟨1,8,.nfunc,.func,[]⟩)) (.leaf none))) (.leaf none))) (.node (.node (.node (.node (.leaf (some ⟨1,8,.nfunc,.func,[]⟩)) (.leaf none)) (.node (.leaf (some ⟨1,8,.nfunc,.func,[]⟩)) (.leaf none))) (.node (.node (.leaf (some ⟨1,8,.nfunc,.func,[]⟩)) (.leaf none)) (.node (.leaf (some ⟨1,8,.nfunc,.func,[]⟩)) (.leaf none)))) (.node (.node (.node (.leaf (some ⟨1,8,.nfunc,.func,[]⟩)) (.leaf none)) (.node (.leaf (some ⟨1,8,.nfunc,.func,[]⟩)) (.leaf none))) (.node (.leaf none) (.node (.leaf (some ⟨32,32,(.agg (rep 32 [(.int .u8 0)])),(.array 16 254),[]⟩)) (.leaf none))))))))))
noncomputable def fn:Go.Run.En (Option FI):=(.node (.node (.node (.node (.node (.node (.node (.node (.leaf none) (.node (.leaf (some ff128)) (.leaf none))) (.node (.node (.leaf (some ff64)) (.leaf none)) (.node (.leaf (some ff192)) (.leaf none)))) (.node (.node (.node (.leaf (some ff32)) (.leaf none)) (.node (.leaf (some ff160)) (.leaf none))) (.node (.node (.leaf (some ff96)) (.leaf none)) (.node (.leaf (some ff224)) (.leaf none))))) (.node (.node (.node (.node (.leaf (some ff16)) (.leaf none)) (.node (.leaf (some ff144)) (.leaf none))) (.node (.node (.leaf (some ff80)) (.leaf none)) (.node (.leaf (some ff208)) (.leaf none)))) (.node (.node (.node (.leaf (some ff48)) (.leaf none)) (.leaf none)) (.node (.node (.leaf (some ff112)) (.leaf none)) (.leaf none))))) (.node (.node (.node (.node (.node (.leaf (some ff8)) (.leaf (some ff264))) (.node (.leaf (some ff136)) (.leaf none))) (.node (.node (.leaf (some ff72)) (.leaf none)) (.node (.leaf (some ff200)) (.leaf none)))) (.node (.node (.node (.leaf (some ff40)) (.leaf none)) (.node (.leaf (some ff168)) (.leaf none))) (.node (.node (.leaf (some ff104)) (.leaf none)) (.node (.leaf (some ff232)) (.leaf none))))) (.node (.node (.node (.node (.leaf (some ff24)) (.leaf none)) (.node (.leaf (some ff152)) (.leaf none))) (.node (.node (.leaf (some ff88)) (.leaf none)) (.node (.leaf (some ff216)) (.leaf none)))) (.node (.node (.node (.leaf (some ff56)) (.leaf none)) (.node (.leaf (some ff184)) (.leaf none))) (.node (.node (.leaf (some ff120)) (.leaf none)) (.leaf none)))))) (.node (.node (.node (.node (.node (.node (.leaf (some ff4)) (.leaf none)) (.node (.leaf (some ff132)) (.leaf none))) (.node (.node (.leaf (some ff68)) (.leaf none)) (.node (.leaf (some ff196)) (.leaf none)))) (.node (.node (.node (.leaf (some ff36)) (.leaf none)) (.node (.leaf (some ff164)) (.leaf none))) (.node (.node (.leaf (some ff100)) (.leaf none)) (.node (.leaf (some ff228)) (.leaf none))))) (.node (.node (.node (.node (.leaf (some ff20)) (.leaf none)) (.node (.leaf (some ff148)) (.leaf none))) (.node (.node (.leaf (some ff84)) (.leaf none)) (.node (.leaf (some ff212)) (.leaf none)))) (.node (.node (.node (.leaf (some ff52)) (.leaf none)) (.node (.leaf (some ff180)) (.leaf none))) (.node (.node (.leaf (some ff116)) (.leaf none)) (.leaf none))))) (.node (.node (.node (.node (.node (.leaf (some ff12)) (.leaf none)) (.node (.leaf (some ff140)) (.leaf none))) (.node (.node (.leaf (some ff76)) (.leaf none)) (.node (.leaf (some ff204)) (.leaf none)))) (.node (.node (.node (.leaf (some ff44)) (.leaf none)) (.node (.leaf (some ff172)) (.leaf none))) (.node (.node (.leaf (some ff108)) (.leaf none)) (.leaf none)))) (.node (.node (.node (.node (.leaf (some ff28)) (.leaf none)) (.node (.leaf (some ff156)) (.leaf none))) (.node (.node (.leaf (some ff92)) (.leaf none)) (.node (.leaf (some ff220)) (.leaf none)))) (.node (.node (.node (.leaf (some ff60)) (.leaf none)) (.node (.leaf (some ff188)) (.leaf none))) (.node (.node (.leaf (some ff124)) (.leaf none)) (.leaf none))))))) (.node (.node (.node (.node (.node (.node (.node (.leaf (some ff2)) (.leaf none)) (.node (.leaf (some ff130)) (.leaf none))) (.node (.node (.leaf (some ff66)) (.leaf none)) (.node (.leaf (some ff194)) (.leaf none)))) (.node (.node (.node (.leaf (some ff34)) (.leaf none)) (.node (.leaf (some ff162)) (.leaf none))) (.node (.node (.leaf (some ff98)) (.leaf none)) (.node (.leaf (some ff226)) (.leaf none))))) (.node (.node (.node (.node (.leaf (some ff18)) (.leaf none)) (.node (.leaf (some ff146)) (.leaf none))) (.node (.node (.leaf (some ff82)) (.leaf none)) (.node (.leaf (some ff210)) (.leaf none)))) (.node (.node (.node (.leaf (some ff50)) (.leaf none)) (.node (.leaf (some ff178)) (.leaf none))) (.node (.node (.leaf (some ff114)) (.leaf none)) (.leaf none))))) (.node (.node (.node (.node (.node (.leaf (some ff10)) (.leaf none)) (.node (.leaf (some ff138)) (.leaf none))) (.node (.node (.leaf (some ff74)) (.leaf none)) (.node (.leaf (some ff202)) (.leaf none)))) (.node (.node (.node (.leaf (some ff42)) (.leaf none)) (.node (.leaf (some ff170)) (.leaf none))) (.node (.node (.leaf (some ff106)) (.leaf none)) (.node (.leaf (some ff234)) (.leaf none))))) (.node (.node (.node (.node (.leaf (some ff26)) (.leaf none)) (.node (.leaf (some ff154)) (.leaf none))) (.node (.node (.leaf (some ff90)) (.leaf none)) (.node (.leaf (some ff218)) (.leaf none)))) (.node (.node (.node (.leaf (some ff58)) (.leaf none)) (.node (.leaf (some ff186)) (.leaf none))) (.node (.node (.leaf (some ff122)) (.leaf none)) (.leaf none)))))) (.node (.node (.node (.node (.node (.node (.leaf (some ff6)) (.leaf none)) (.node (.leaf (some ff134)) (.leaf none))) (.node (.node (.leaf (some ff70)) (.leaf none)) (.node (.leaf (some ff198)) (.leaf none)))) (.node (.node (.node (.leaf (some ff38)) (.leaf none)) (.node (.leaf (some ff166)) (.leaf none))) (.node (.node (.leaf (some ff102)) (.leaf none)) (.node (.leaf (some ff230)) (.leaf none))))) (.node (.node (.node (.node (.leaf (some ff22)) (.leaf none)) (.node (.leaf (some ff150)) (.leaf none))) (.node (.node (.leaf (some ff86)) (.leaf none)) (.node (.leaf (some ff214)) (.leaf none)))) (.node (.node (.node (.leaf (some ff54)) (.leaf none)) (.node (.leaf (some ff182)) (.leaf none))) (.node (.node (.leaf (some ff118)) (.leaf none)) (.leaf none))))) (.node (.node (.node (.node (.node (.leaf (some ff14)) (.leaf none)) (.node (.leaf (some ff142)) (.leaf none))) (.node (.node (.leaf (some ff78)) (.leaf none)) (.node (.leaf (some ff206)) (.leaf none)))) (.node (.node (.node (.leaf (some ff46)) (.leaf none)) (.node (.leaf (some ff174)) (.leaf none))) (.leaf none))) (.node (.node (.node (.node (.leaf (some ff30)) (.leaf none)) (.node (.leaf (some ff158)) (.leaf none))) (.node (.node (.leaf (some ff94)) (.leaf none)) (.node (.leaf (some ff222)) (.leaf none)))) (.node (.node (.node (.leaf (some ff62)) (.leaf none)) (.node (.leaf (some ff190)) (.leaf none))) (.node (.node (.leaf (some ff126)) (.leaf none)) (.leaf none)))))))) (.node (.node (.node (.node (.node (.node (.node (.leaf none) (.node (.leaf (some ff129)) (.leaf none))) (.node (.node (.leaf (some ff65)) (.leaf none)) (.node (.leaf (some ff193)) (.leaf none)))) (.node (.node (.node (.leaf (some ff33)) (.leaf none)) (.node (.leaf (some ff161)) (.leaf none))) (.node (.node (.leaf (some ff97)) (.leaf none)) (.node (.leaf (some ff225)) (.leaf none))))) (.node (.node (.node (.node (.leaf (some ff17)) (.leaf none)) (.node (.leaf (some ff145)) (.leaf none))) (.node (.node (.leaf (some ff81)) (.leaf none)) (.leaf none))) (.node (.node (.node (.leaf (some ff49)) (.leaf none)) (.node (.leaf (some ff177)) (.leaf none))) (.node (.node (.leaf (some ff113)) (.leaf none)) (.leaf none))))) (.node (.node (.node (.node (.node (.leaf (some ff9)) (.leaf none)) (.node (.leaf (some ff137)) (.leaf none))) (.node (.node (.leaf (some ff73)) (.leaf none)) (.node (.leaf (some ff201)) (.leaf none)))) (.node (.node (.node (.leaf (some ff41)) (.leaf none)) (.node (.leaf (some ff169)) (.leaf none))) (.node (.node (.leaf (some ff105)) (.leaf none)) (.node (.leaf (some ff233)) (.leaf none))))) (.node (.node (.node (.node (.leaf (some ff25)) (.leaf none)) (.node (.leaf (some ff153)) (.leaf none))) (.node (.node (.leaf (some ff89)) (.leaf none)) (.node (.leaf (some ff217)) (.leaf none)))) (.node (.node (.node (.leaf (some ff57)) (.leaf none)) (.node (.leaf (some ff185)) (.leaf none))) (.node (.node (.leaf (some ff121)) (.leaf none)) (.leaf none)))))) (.node (.node (.node (.node (.node (.node (.leaf (some ff5)) (.leaf none)) (.node (.leaf (some ff133)) (.leaf none))) (.node (.node (.leaf (some ff69)) (.leaf none)) (.node (.leaf (some ff197)) (.leaf none)))) (.node (.node (.node (.leaf (some ff37)) (.leaf none)) (.node (.leaf (some ff165)) (.leaf none))) (.node (.node (.leaf (some ff101)) (.leaf none)) (.leaf none)))) (.node (.node (.node (.node (.leaf (some ff21)) (.leaf none)) (.node (.leaf (some ff149)) (.leaf none))) (.node (.node (.leaf (some ff85)) (.leaf none)) (.node (.leaf (some ff213)) (.leaf none)))) (.node (.node (.node (.leaf (some ff53)) (.leaf none)) (.node (.leaf (some ff181)) (.leaf none))) (.node (.node (.leaf (some ff117)) (.leaf none)) (.leaf none))))) (.node (.node (.node (.node (.node (.leaf (some ff13)) (.leaf none)) (.node (.leaf (some ff141)) (.leaf none))) (.node (.node (.leaf (some ff77)) (.leaf none)) (.node (.leaf (some ff205)) (.leaf none)))) (.node (.node (.node (.leaf (some ff45)) (.leaf none)) (.node (.leaf (some ff173)) (.leaf none))) (.node (.node (.leaf (some ff109)) (.leaf none)) (.leaf none)))) (.node (.node (.node (.node (.leaf (some ff29)) (.leaf none)) (.node (.leaf (some ff157)) (.leaf none))) (.node (.node (.leaf (some ff93)) (.leaf none)) (.node (.leaf (some ff221)) (.leaf none)))) (.node (.node (.node (.leaf (some ff61)) (.leaf none)) (.node (.leaf (some ff189)) (.leaf none))) (.node (.node (.leaf (some ff125)) (.leaf none)) (.leaf none))))))) (.node (.node (.node (.node (.node (.node (.node (.leaf (some ff3)) (.leaf none)) (.node (.leaf (some ff131)) (.leaf none))) (.node (.node (.leaf (some ff67)) (.leaf none)) (.node (.leaf (some ff195)) (.leaf none)))) (.node (.node (.node (.leaf (some ff35)) (.leaf none)) (.node (.leaf (some ff163)) (.leaf none))) (.node (.node (.leaf (some ff99)) (.leaf none)) (.node (.leaf (some ff227)) (.leaf none))))) (.node (.node (.node (.node (.leaf (some ff19)) (.leaf none)) (.leaf none)) (.node (.node (.leaf (some ff83)) (.leaf none)) (.leaf none))) (.node (.node (.node (.leaf (some ff51)) (.leaf none)) (.node (.leaf (some ff179)) (.leaf none))) (.node (.node (.leaf (some ff115)) (.leaf none)) (.leaf none))))) (.node (.node (.node (.node (.node (.leaf (some ff11)) (.leaf none)) (.node (.leaf (some ff139)) (.leaf none))) (.node (.node (.leaf (some ff75)) (.leaf none)) (.node (.leaf (some ff203)) (.leaf none)))) (.node (.node (.node (.leaf (some ff43)) (.leaf none)) (.node (.leaf (some ff171)) (.leaf none))) (.node (.node (.leaf (some ff107)) (.leaf none)) (.leaf none)))) (.node (.node (.node (.node (.leaf (some ff27)) (.leaf none)) (.node (.leaf (some ff155)) (.leaf none))) (.node (.node (.leaf (some ff91)) (.leaf none)) (.node (.leaf (some ff219)) (.leaf none)))) (.node (.node (.node (.leaf (some ff59)) (.leaf none)) (.node (.leaf (some ff187)) (.leaf none))) (.node (.node (.leaf (some ff123)) (.leaf none)) (.leaf none)))))) (.node (.node (.node (.node (.node (.node (.leaf (some ff7)) (.leaf none)) (.node (.leaf (some ff135)) (.leaf none))) (.node (.node (.leaf (some ff71)) (.leaf none)) (.node (.leaf (some ff199)) (.leaf none)))) (.node (.node (.node (.leaf (some ff39)) (.leaf none)) (.node (.leaf (some ff167)) (.leaf none))) (.node (.node (.leaf (some ff103)) (.leaf none)) (.node (.leaf (some ff231)) (.leaf none))))) (.node (.node (.node (.node (.leaf (some ff23)) (.leaf none)) (.node (.leaf (some ff151)) (.leaf none))) (.node (.node (.leaf (some ff87)) (.leaf none)) (.node (.leaf (some ff215)) (.leaf none)))) (.node (.node (.node (.leaf (some ff55)) (.leaf none)) (.node (.leaf (some ff183)) (.leaf none))) (.node (.node (.leaf (some ff119)) (.leaf none)) (.leaf none))))) (.node (.node (.node (.node (.node (.leaf (some ff15)) (.leaf none)) (.node (.leaf (some ff143)) (.leaf none))) (.node (.node (.leaf (some ff79)) (.leaf none)) (.node (.leaf (some ff207)) (.leaf none)))) (.node (.node (.node (.leaf (some ff47)) (.leaf none)) (.node (.leaf (some ff175)) (.leaf none))) (.node (.node (.leaf (some ff111)) (.leaf none)) (.leaf none)))) (.node (.node (.node (.node (.leaf (some ff31)) (.leaf none)) (.node (.leaf (some ff159)) (.leaf none))) (.node (.node (.leaf (some ff95)) (.leaf none)) (.node (.leaf (some ff223)) (.leaf none)))) (.node (.node (.node (.leaf (some ff63)) (.leaf none)) (.node (.leaf (some ff191)) (.leaf none))) (.node (.node (.leaf (some ff127)) (.leaf none)) (.leaf none)))))))))
noncomputable def ext (f:Nat):X:=match f with | 117=>.cpy 115 | 176=>.cnt | 209=>.mnz 5 | 229=>.idx | _=>.no
noncomputable def pr:Pr:=⟨fun t=>Run.ite (Nat.ble (Nat.succ t) 512) (Go.Run.En.get (Pa.of 9 t) ty) none,fun f=>Run.ite (Nat.ble (Nat.succ f) 512) (Go.Run.En.get (Pa.of 9 f) fn) none,fun _=>0,ext⟩
end Go.Proofs.YtepaekbjoombpaaGreatDoor.Pt
end
