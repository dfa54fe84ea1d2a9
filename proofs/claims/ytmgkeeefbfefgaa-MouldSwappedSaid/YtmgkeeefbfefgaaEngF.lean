/- The engine: ranges over functions, their rounds, and scopes. No condition. -/
import Derived.Test.YtmgkeeefbfefgaaEng
import Derived.RangeFuncIn
import Derived.LoopNIn
import Derived.ProofKit
set_option linter.unusedVariables false
set_option linter.unusedSimpArgs false
namespace Go.Eng
open Go
section yields
variable {P : Program} {l : Option Nat} {h : Heap} {e : Env} {d : List Deferred} {k : Cont}
/-- A call of a function value, from whatever frame. -/
def CallY (P : Program) (v : Value) (vs : List Value) (h : Heap) (K : Value → Heap → Prop) : Prop :=
  ∀ (er : Env) (f : Operand) (xs : Array Operand) (ats : Array TypeId) (ty : TypeId), ev er f = v → (xs.map (ev er)).toList = vs → opSem P (.call ⟨.value f, xs, ats⟩) ty er h K
theorem CallY.run {v : Value} {vs : List Value} {K K' : Value → Heap → Prop} (H : CallY P v vs h K) {er : Env} {f : Operand} {xs : Array Operand} {ats : Array TypeId} {ty : TypeId} (hf : ev er f = v) (hx : (xs.map (ev er)).toList = vs)
    (hk : ∀ v h, K v h → K' v h) : opSem P (.call ⟨.value f, xs, ats⟩) ty er h K' := opSem_mono hk (H er f xs ats ty hf hx)
theorem CallY.run1 {v u : Value} {K K' : Value → Heap → Prop} (H : CallY P v [u] h K) {er : Env} {f x : Operand} {ats : Array TypeId} {ty : TypeId} (hf : ev er f = v) (hx : ev er x = u)
    (hk : ∀ v h, K v h → K' v h) : opSem P (.call ⟨.value f, #[x], ats⟩) ty er h K' := opSem_mono hk (H er f #[x] ats ty hf (by simp [hx]))
theorem callV_yield {lo : Nat} {first caps args : Array Value} {K : Value → Heap → Prop} {F : Prop} : callV P (.func (.yield lo) first caps) args h K F = F := by unfold callV; rfl
theorem yrun_getLoop {w : World} {r : Nat} {rec : Loop} (hr : w.heap[r]? = some (.loop rec)) : (Instr.getLoop r).run P w = .ok rec w := by
  simp [Instr.getLoop, getObj, Sem.run, hr, Result.andThen]
theorem yrun_setLoop {w : World} {r : Nat} {rec : Loop} (hr : w.heap[r]? = some (.loop rec)) (o : Obj) : (setObj r o).run P w = .ok () { w with heap := w.heap.setIfInBounds r o } := by
  simp [setObj, Sem.run, hr]
theorem yrun_yield {w : World} {r : Nat} {rec : Loop} (hr : w.heap[r]? = some (.loop rec)) {args : Array Value} (hs : args.size = rec.params.size) :
    (Instr.yield r args).run P w = .ok (.round r rec.fn ((rec.params.zip args).foldl (fun tmps (x : Tmp × Value) => tmps.setIfInBounds x.1 x.2) rec.tmps) rec.assign rec.body) w := by
  simp [Instr.yield, yrun_getLoop hr, Result.andThen, hs]
theorem yrun_begin {w : World} {r : Nat} {rec : Loop} (hr : w.heap[r]? = some (.loop rec)) (hs : rec.state = .ready) :
    (Instr.beginRound r).run P w = .ok () { w with heap := w.heap.setIfInBounds r (.loop { rec with state := .busy }) } := by
  simp [Instr.beginRound, yrun_getLoop hr, yrun_setLoop hr, Result.andThen, hs]
theorem yrun_end {w : World} {r : Nat} {rec : Loop} (hr : w.heap[r]? = some (.loop rec)) (j : Option Code) :
    (Instr.endRound r j).run P w = .ok (.bool j.isNone) { w with heap := w.heap.setIfInBounds r (.loop { rec with state := if j.isNone then .ready else .done, pending := j }) } := by
  simp [Instr.endRound, yrun_getLoop hr, yrun_setLoop hr, Result.andThen]
theorem yrun_endLoop {w : World} {r : Nat} {rec : Loop} (hr : w.heap[r]? = some (.loop rec)) (hs : rec.state ≠ .busy) :
    (Instr.endLoop r).run P w = .ok rec.pending { w with heap := w.heap.setIfInBounds r (.loop { rec with state := .exhausted }) } := by
  have : (rec.state == LoopState.busy) = false := by cases hst : rec.state <;> first | rfl | exact absurd hst hs
  simp [Instr.endLoop, yrun_getLoop hr, yrun_setLoop hr, Result.andThen, this]
  intro hh; exact absurd hh hs
theorem yfoldl_arr : ∀ (l : List (Tmp × Value)) (a : Array Value), (l.foldl (fun tmps (x : Tmp × Value) => tmps.setIfInBounds x.1 x.2) a).toList = l.foldl (fun er (x : Tmp × Value) => er.set x.1 x.2) a.toList
  | [], a => rfl
  | x :: l, a => by
    simp only [List.foldl_cons]
    rw [yfoldl_arr l]
    simp
theorem yrun_enter {w : World} {fn : FuncId} {tmps : Array Value} {ps : Array Tmp} {a b : Code} : (Instr.enterLoop fn tmps ps a b none).run P w = .ok (w.heap.size + 1, [{ target := .collected w.heap.size, args := #[] }])
    { w with heap := (w.heap.push (.deferred (some []))).push (.loop { state := .ready, pending := none, fn, tmps, params := ps, assign := a, body := b, defers := w.heap.size }) } := by
  simp [Instr.enterLoop, newObj, Sem.run, Result.andThen]
  exact ⟨rfl, rfl, rfl⟩
/-- The frame of a round: the loop's, its parameters set. -/
def binds : List Tmp → List Value → Env → Env
  | p :: ps, v :: vs, e => binds ps vs (e.set p v)
  | _, _, e => e
theorem binds_cons {p : Tmp} {ps : List Tmp} {v : Value} {vs : List Value} {e : Env} : binds (p :: ps) (v :: vs) e = binds ps vs (e.set p v) := eqi rfl
theorem binds_nil {vs : List Value} {e : Env} : binds [] vs e = e := by simp [binds]
theorem binds_eq : ∀ (ps : List Tmp) (vs : List Value) (e : Env), binds ps vs e = (ps.zip vs).foldl (fun er (x : Tmp × Value) => er.set x.1 x.2) e
  | [], vs, e => by simp [binds]
  | p :: ps, [], e => by simp [binds]
  | p :: ps, v :: vs, e => by simp [binds, binds_eq ps vs]
/-- Where a round ends. -/
def endY (lo : Nat) (K : Value → Heap → Prop) : Cont := fun x _ _ h => ∃ rec, h[lo]? = some (.loop rec) ∧ match x with
  | .normal => K (.bool true) (h.setIfInBounds lo (.loop { rec with state := .ready, pending := none }))
  | .ret => K (.bool false) (h.setIfInBounds lo (.loop { rec with state := .done, pending := some .ret }))
  | .exit i => K (.bool false) (h.setIfInBounds lo (.loop { rec with state := .done, pending := some (.exit i) }))
  | .goto i => K (.bool false) (h.setIfInBounds lo (.loop { rec with state := .done, pending := some (.goto i) }))
  | _ => False
/-- Where a round's assignments end. -/
def asgY (P : Program) (lo : Nat) (body : Code) (K : Value → Heap → Prop) : Cont := fun x e d h => x = .normal ∧ ∃ rec, h[lo]? = some (.loop rec) ∧ rec.state = .ready ∧
  exec (some lo) P body (endY lo K) e d (h.setIfInBounds lo (.loop { rec with state := .busy }))
/-- A call of yield: one round. -/
theorem callY_yield {lo : Nat} {rec : Loop} {vs : List Value} {K : Value → Heap → Prop} (hr : h[lo]? = some (.loop rec)) (hsz : vs.length = rec.params.size)
    (H : exec (some lo) P rec.assign (asgY P lo rec.body K) (binds rec.params.toList vs rec.tmps.toList) [] h) : CallY P (.func (.yield lo) #[] #[]) vs h K := by
  intro er f xs ats ty hf hx
  unfold opSem
  refine And.intro rfl fun w hw => ?_
  subst hw
  have hargs : xs.map (ev er) = vs.toArray := by apply Array.toList_inj.1; simpa using hx
  have hrun : (execOp (ev er) { dst := none, op := .call ⟨.value f, xs, ats⟩, type := ty, pos := "", after := #[], guard := none }).run P w = .ok (.round lo rec.fn ((rec.params.zip vs.toArray).foldl (fun tmps (x : Tmp × Value) => tmps.setIfInBounds x.1 x.2) rec.tmps) rec.assign rec.body) w := by
    have := yrun_yield (P := P) hr (args := vs.toArray) (by simpa using hsz)
    simp only [execOp, resolve, hf, Deferred.ofValue, invoke, Sem.run_bind, Sem.run_pure, Result.andThen_ok, hargs, Array.empty_append, this]
  rw [hrun]
  refine ⟨Eng.Rest.refl w, roundIn_of_wpIn trivial ?_⟩
  have ha := exec_sound _ _ _ _ _ H
  unfold WP at ha
  have ha := ha w rfl
  have htm : (binds rec.params.toList vs rec.tmps.toList).toArray = ((rec.params.zip vs.toArray).foldl (fun tmps (x : Tmp × Value) => tmps.setIfInBounds x.1 x.2) rec.tmps) := by
    apply Array.toList_inj.1
    rw [← Array.foldl_toList, yfoldl_arr, binds_eq]
    simp
  rw [← htm]
  refine wpIn_mono ha ?_
  rintro x1 a1 w1 ⟨⟨hx1, rec1, b1, b2, b3⟩, hr1⟩
  subst hx1
  refine ⟨_, yrun_begin (P := P) b1 b2, ?_⟩
  have hb := exec_sound _ _ _ _ _ b3
  unfold WP at hb
  have hb := hb { w1 with heap := w1.heap.setIfInBounds lo (.loop { rec1 with state := .busy }) } rfl
  rw [toList_act] at hb
  refine wpIn_mono hb ?_
  rintro x2 a2 w2 ⟨⟨rec2, c1, c2⟩, hr2⟩
  have hrest : Eng.Rest w w2 := hr1.trans ⟨hr2.os, hr2.tape, hr2.output⟩
  cases x2 with
  | normal => exact ⟨_, _, yrun_end (P := P) c1 none, _, rfl, c2, hrest.trans ⟨rfl, rfl, rfl⟩⟩
  | ret => exact ⟨_, _, yrun_end (P := P) c1 (some .ret), _, rfl, c2, hrest.trans ⟨rfl, rfl, rfl⟩⟩
  | exit i => exact ⟨_, _, yrun_end (P := P) c1 (some (.exit i)), _, rfl, c2, hrest.trans ⟨rfl, rfl, rfl⟩⟩
  | goto i => exact ⟨_, _, yrun_end (P := P) c1 (some (.goto i)), _, rfl, c2, hrest.trans ⟨rfl, rfl, rfl⟩⟩
  | _ => exact c2.elim
def mkD (r : Nat) : Deferred := { target := .collected r, args := #[] }
/-- What is asked when the iterator has returned. -/
def endF (l : Option Nat) (P : Program) (lo : Nat) (k : Cont) (e : Env) (d : List Deferred) (h : Heap) : Prop := ∃ rec, h[lo]? = some (.loop rec) ∧ rec.state ≠ .busy ∧ (match rec.pending with
  | none => k .normal e d (h.setIfInBounds lo (.loop { rec with state := .exhausted }))
  | some j => exec l P j k e d (h.setIfInBounds lo (.loop { rec with state := .exhausted })))
/-- A range over a function, in no round. -/
theorem WP_range {f : Operand} {ps : Array Tmp} {a b : Code} {gf : FuncId} {first caps : Array Value} (hf : ev e f = .func (.func gf) first caps)
    (H : ∀ fn : FuncId, CallsH P gf (first ++ #[.func (.yield (h.size + 1)) #[] #[]] ++ caps) ((h.push (.deferred (some []))).push (.loop { state := .ready, pending := none, fn, tmps := e.toArray, params := ps, assign := a, body := b, defers := h.size }))
      (fun _ h2 => endF none P (h.size + 1) k e (mkD h.size :: d) h2)) : WP none P (.rangeFunc f ps a b) k e d h := by
  unfold WP
  intro w hw
  subst hw
  refine wpIn_rangeFunc fun fn _ => ?_
  have hcl := H fn
  unfold CallsH at hcl
  obtain ⟨hbod, hcl⟩ := hcl
  obtain ⟨W1, hW1⟩ : ∃ W1 : World, W1 = { w with heap := (w.heap.push (.deferred (some []))).push (.loop { state := .ready, pending := none, fn, tmps := e.toArray, params := ps, assign := a, body := b, defers := w.heap.size }) } := ⟨_, rfl⟩
  have hcw := hcl W1 (by rw [hW1])
  unfold CallsW at hcw
  refine ⟨w.heap.size + 1, [mkD w.heap.size], W1, ⟨.fn (.func gf) caps, first ++ #[.func (.yield (w.heap.size + 1)) #[] #[]]⟩, W1, gf, first ++ #[.func (.yield (w.heap.size + 1)) #[] #[]] ++ caps, W1, ?_, ?_, fun _ _ => trivial, ?_, fun hh => by simp [fen_depth] at hh, callsIn_of none ?_⟩
  · rw [hW1]
    exact yrun_enter
  · have hev : ev e (.const (.func (.yield (w.heap.size + 1)) #[] #[])) = .func (.yield (w.heap.size + 1)) #[] #[] := rfl
    rw [eval_ev]
    simp only [resolve, hf, Deferred.ofValue, Sem.run_pure, List.map_toArray, List.map_cons, List.map_nil, hev]
  · show (callFunc gf _).run P _ = _
    exact call_run hbod _
  · refine Calls.mono hcw ?_
    rintro e' w3 ⟨v, rfl, ⟨rec, q1, q2, q3⟩, hr3⟩
    have hr3 : Eng.Rest w w3 := by rw [hW1] at hr3; exact ⟨hr3.os, hr3.tape, hr3.output⟩
    refine ⟨_, _, yrun_endLoop (P := P) q1 q2, ?_⟩
    cases hp : rec.pending with
    | none =>
      rw [hp] at q3
      exact ⟨q3, ⟨hr3.os, hr3.tape, hr3.output⟩⟩
    | some j =>
      rw [hp] at q3
      have hb := exec_sound _ _ _ _ _ q3
      unfold WP at hb
      rw [← hp] at hb
      have hb := hb { w3 with heap := w3.heap.setIfInBounds (w.heap.size + 1) (.loop { rec with state := .exhausted }) } rfl
      rw [hp] at hb
      refine wpIn_mono hb ?_
      rintro x a' w4 ⟨c1, c2⟩
      exact ⟨c1, hr3.trans ⟨c2.os, c2.tape, c2.output⟩⟩
theorem ystepR_scope {b : Frame} {a : Act} {k : List Item} {cs : List Frame} {w : World} {c : Code} : Go.step P (lone (b.atR a (.code (.scope c) :: k)) cs w) = .next (lone (b.atR a (.code c :: .inScope c :: k)) cs w) :=
  step_lone_go (by simp [stepG, stepG.exec, Frame.atR])
theorem ystepR_inScope {b : Frame} {a : Act} {k : List Item} {cs : List Frame} {w : World} {c : Code} : Go.step P (lone (b.atR a (.inScope c :: k)) cs w) = .next (lone (b.atR a k) cs w) :=
  step_lone_go (by simp [stepG, stepG.exec, Frame.atR])
theorem ywpIn_scope {F : Fence} {n : Nat} {Q : Exit → Act → World → Prop} {a : Act} {w : World} {c : Code} (hc : c.wpIn F n P (fun x a w => (∀ i, x ≠ .goto i) ∧ Q x a w) a w) : (Code.scope c).wpIn F n P Q a w := by
  intro b k cs hro hb hr
  have h0 : (lone (b.atR a (.code (.scope c) :: k)) cs w).fenced P F := fenced_calm hb hr rfl
  obtain ⟨e, a₁, w₁, hq, harr⟩ := hc b (.inScope c :: k) cs hro hb hr
  cases e with
  | normal => exact ⟨.normal, a₁, w₁, hq.2, .head h0 ystepR_scope (StepsIn.trans harr (.one (fenced_calm hb hr rfl) ystepR_inScope))⟩
  | exit id =>
    have hx : exitTo id (.inScope c :: k) = exitTo id k := by simp [exitTo]
    exact ⟨.exit id, a₁, w₁, hq.2, fun k' hk => .head h0 ystepR_scope (harr.1 k' (by rw [hx]; exact hk)),
      fun hr' hk => let ⟨k₁, h1, h2⟩ := harr.2 hr' (by rw [hx]; exact hk); ⟨k₁, h1, .head h0 ystepR_scope h2⟩⟩
  | goto l => exact absurd rfl (hq.1 l)
  | ret => exact ⟨_, a₁, w₁, hq.2, .of_steps (.one h0 ystepR_scope) harr⟩
  | panic ch => exact ⟨_, a₁, w₁, hq.2, .of_steps (.one h0 ystepR_scope) harr⟩
  | outgrown => exact ⟨_, a₁, w₁, hq.2, .of_steps (.one h0 ystepR_scope) harr⟩
theorem WP_range' {f : Operand} {ps : Array Tmp} {a b : Code} {gf : FuncId} {first caps : Array Value} (hf : ev e f = .func (.func gf) first caps)
    (H : ∀ R : Loop, R.state = .ready → R.pending = none → R.tmps = e.toArray → R.params = ps → R.assign = a → R.body = b → R.defers = h.size →
      CallsH P gf (first ++ #[.func (.yield (h.size + 1)) #[] #[]] ++ caps) ((h.push (.deferred (some []))).push (.loop R)) (fun _ h2 => endF none P (h.size + 1) k e (mkD h.size :: d) h2)) : WP none P (.rangeFunc f ps a b) k e d h :=
  WP_range hf fun fn => H _ rfl rfl rfl rfl rfl rfl rfl
/-- The record is what it was when the round ends normally. -/
theorem Loop.back {R : Loop} (h1 : R.state = .ready) (h2 : R.pending = none) : ({ ({ R with state := .busy } : Loop) with state := .ready, pending := none } : Loop) = R := by
  cases R; simp_all
/-- What is asked behind a scope: it is left by no goto. -/
def scopeK (k : Cont) : Cont := fun x e d h => (∀ i, x ≠ .goto i) ∧ k x e d h
theorem WP_scope {c : Code} (H : exec l P c (scopeK k) e d h) : WP l P (.scope c) k e d h := by
  have hb := exec_sound _ _ _ _ _ H
  unfold WP at *
  intro w hw
  refine ywpIn_scope (wpIn_mono (hb w hw) ?_)
  rintro x a' w' ⟨⟨c1, c2⟩, hr⟩
  exact ⟨c1, c2, hr⟩
theorem exec_scope {c : Code} (H : exec l P c (scopeK k) e d h) : exec l P (.scope c) k e d h := by
  unfold exec
  exact WP_scope H
theorem scopeK_normal : scopeK k .normal e d h = k .normal e d h := eqi (propext ⟨fun H => H.2, fun H => ⟨fun _ hi => (by cases hi), H⟩⟩)
theorem scopeK_ret : scopeK k .ret e d h = k .ret e d h := eqi (propext ⟨fun H => H.2, fun H => ⟨fun _ hi => (by cases hi), H⟩⟩)
theorem scopeK_exit {i : Nat} : scopeK k (.exit i) e d h = k (.exit i) e d h := eqi (propext ⟨fun H => H.2, fun H => ⟨fun _ hi => (by cases hi), H⟩⟩)
/-- A function's end where one block for deferred calls has been marked. -/
theorem ret_mark {rs : List ResultVar} {K : Value → Heap → Prop} {r : Nat} (hr : h[r]? = some (.deferred (some []))) (H : resA P rs e [] K (h.setIfInBounds r (.deferred none))) : retK P rs K .ret e [mkD r] h := by
  unfold retK finW
  exact ⟨⟨r, rfl, hr, trivial⟩, H⟩
theorem nor_mark {rs : List ResultVar} {K : Value → Heap → Prop} {r : Nat} (hr : h[r]? = some (.deferred (some []))) (H : resA P rs e [] K (h.setIfInBounds r (.deferred none))) : retK P rs K .normal e [mkD r] h := by
  unfold retK finW
  exact ⟨⟨r, rfl, hr, trivial⟩, H⟩
theorem fin_mark {rs : List ResultVar} {K : Value → Heap → Prop} {r : Nat} (hr : h[r]? = some (.deferred (some []))) (H : resA P rs e [] K (h.setIfInBounds r (.deferred none))) : finW P rs e [mkD r] h K := by
  unfold finW
  exact ⟨⟨r, rfl, hr, trivial⟩, H⟩
theorem asgY_normal {lo : Nat} {body : Code} {K : Value → Heap → Prop} {rec : Loop} (hr : h[lo]? = some (.loop rec)) (hs : rec.state = .ready) (H : exec (some lo) P body (endY lo K) e d (h.setIfInBounds lo (.loop { rec with state := .busy }))) : asgY P lo body K .normal e d h :=
  ⟨rfl, rec, hr, hs, H⟩
theorem Upd.set {b : Nat} {o : Obj} : Upd h (h.setIfInBounds b o) b := ⟨by simp, fun b' hb => Array.getElem?_setIfInBounds_ne (Ne.symm hb)⟩
theorem set_get {b : Nat} {o : Obj} (hb : b < h.size) : (h.setIfInBounds b o)[b]? = some o := by simp [hb]
/-! ### ranges over functions by an invariant -/
/-- A function value that hands these, one after another, to whom it is given, as long as the heap is so. -/
def SeqOf (P : Program) (v : Value) (F : Heap → Prop) (xss : List (List Value)) : Prop :=
  ∃ q first caps, v = .func (.func q) first caps ∧ ∀ (lo : Nat) (h0 : Heap) (J : Nat → Heap → Prop) (E : Heap → Prop), (∀ i h', J i h' → F h') → J 0 h0 →
    (∀ i h' vs, xss[i]? = some vs → J i h' → CallY P (.func (.yield lo) #[] #[]) vs h' (fun v h'' => (v = .bool true ∧ J (i + 1) h'') ∨ (v = .bool false ∧ E h''))) →
    CallsH P q (first ++ #[.func (.yield lo) #[] #[]] ++ caps) h0 (fun _ h' => J xss.length h' ∨ E h')
def endI (lo : Nat) (o : Obj) (K : Heap → Prop) (Br : Code → Heap → Prop) : Cont := fun x _ _ h => h[lo]? = some o ∧ match x with
  | .normal => K h
  | .ret => Br .ret h
  | .exit i => Br (.exit i) h
  | _ => False
def asgI (P : Program) (lo : Nat) (o : Obj) (b : Code) (K : Heap → Prop) (Br : Code → Heap → Prop) : Cont := fun x e d h => x = .normal ∧ h[lo]? = some o ∧
  ∀ h2 o2, Upd h h2 lo → h2[lo]? = some o2 → exec (some lo) P b (endI lo o2 K Br) e d h2
theorem endI_normal {lo : Nat} {o : Obj} {K : Heap → Prop} {Br : Code → Heap → Prop} : endI lo o K Br .normal e d h = (h[lo]? = some o ∧ K h) := eqi rfl
theorem endI_ret {lo : Nat} {o : Obj} {K : Heap → Prop} {Br : Code → Heap → Prop} : endI lo o K Br .ret e d h = (h[lo]? = some o ∧ Br .ret h) := eqi rfl
theorem endI_exit {lo i : Nat} {o : Obj} {K : Heap → Prop} {Br : Code → Heap → Prop} : endI lo o K Br (.exit i) e d h = (h[lo]? = some o ∧ Br (.exit i) h) := eqi rfl
theorem asgI_normal {lo : Nat} {o : Obj} {b : Code} {K : Heap → Prop} {Br : Code → Heap → Prop} : asgI P lo o b K Br .normal e d h = (h[lo]? = some o ∧
  ∀ h2 o2, Upd h h2 lo → h2[lo]? = some o2 → exec (some lo) P b (endI lo o2 K Br) e d h2) := eqi (propext ⟨fun H => H.2, fun H => ⟨rfl, H⟩⟩)
theorem WP_rangeI {f : Operand} {ps : Array Tmp} {a b : Code} {v : Value} {F : Heap → Prop} {xss : List (List Value)} (hf : ev e f = v) (hseq : SeqOf P v F xss) (Inv : Nat → Heap → Prop) (Br : Code → Heap → Prop)
    (hps : ∀ vs ∈ xss, vs.length = ps.size)
    (hext : ∀ i h', Inv i h' → F h')
    (hupd : ∀ i h1 h2, Inv i h1 → Upd h1 h2 (h.size + 1) → Inv i h2) (bupd : ∀ j h1 h2, Br j h1 → Upd h1 h2 (h.size + 1) → Br j h2)
    (start : ∀ h', Ext h h' → h'[h.size]? = some (.deferred (some [])) → h'.size = h.size + 2 → Inv 0 h')
    (round : ∀ i h' vs o, xss[i]? = some vs → Inv i h' → h'[h.size + 1]? = some o → exec (some (h.size + 1)) P a (asgI P (h.size + 1) o b (Inv (i + 1)) Br) (binds ps.toList vs e) [] h')
    (fin : ∀ h', Inv xss.length h' → k .normal e (mkD h.size :: d) h')
    (brk : ∀ j h', Br j h' → exec none P j k e (mkD h.size :: d) h') : WP none P (.rangeFunc f ps a b) k e d h := by
  obtain ⟨q, first, caps, rfl, hq⟩ := hseq
  refine WP_range' hf ?_
  intro R R1 R2 R3 R4 R5 R6 R7
  have hsz : (h.push (.deferred (some []))).size = h.size + 1 := by simp
  refine CallsH.mono (hq (h.size + 1) _ (fun i h' => Inv i h' ∧ h'[h.size + 1]? = some (.loop R)) (fun h' => ∃ (rec : Loop) (j : Code), h'[h.size + 1]? = some (.loop rec) ∧ rec.state = .done ∧ rec.pending = some j ∧ Br j h') (fun i h' H => hext i h' H.1) ?_ ?_) ?_
  · refine ⟨start _ (((Ext.refl h).push _).push _) (push_old push_new) (by simp), ?_⟩
    have := push_new (h := h.push (.deferred (some []))) (o := .loop R)
    rwa [hsz] at this
  · rintro i h' vs hvs ⟨hI, hR⟩
    refine callY_yield hR (by rw [R4]; exact hps _ (List.mem_of_getElem? hvs)) ?_
    rw [R3, R4, R5, R6, List.toList_toArray]
    refine exec_mono a ?_ _ _ _ (round i h' vs _ hvs hI hR)
    rintro x e2 d2 h2 ⟨rfl, h2o, H⟩
    refine asgY_normal h2o R1 ?_
    refine exec_mono b ?_ _ _ _ (H _ _ Upd.set (set_get (lt_of_get h2o)))
    rintro x e3 d3 h3 ⟨h3o, H3⟩
    cases x with
    | normal =>
      refine ⟨_, h3o, ?_⟩
      refine .inl ⟨rfl, hupd _ _ _ H3 Upd.set, ?_⟩
      show (h3.setIfInBounds _ _)[_]? = _
      rw [set_get (lt_of_get h3o), Loop.back R1 R2]
    | ret =>
      refine ⟨_, h3o, ?_⟩
      exact .inr ⟨rfl, _, _, set_get (lt_of_get h3o), rfl, rfl, bupd _ _ _ H3 Upd.set⟩
    | exit j =>
      refine ⟨_, h3o, ?_⟩
      exact .inr ⟨rfl, _, _, set_get (lt_of_get h3o), rfl, rfl, bupd _ _ _ H3 Upd.set⟩
    | _ => exact H3.elim
  · rintro v h' (⟨hI, hR⟩ | ⟨rec, j, hR, hst, hpd, hB⟩)
    · refine ⟨_, hR, by rw [R1]; decide, ?_⟩
      rw [R2]
      exact fin _ (hupd _ _ _ hI Upd.set)
    · refine ⟨_, hR, by rw [hst]; decide, ?_⟩
      rw [hpd]
      exact brk _ _ (bupd _ _ _ hB Upd.set)
end yields
end Go.Eng
