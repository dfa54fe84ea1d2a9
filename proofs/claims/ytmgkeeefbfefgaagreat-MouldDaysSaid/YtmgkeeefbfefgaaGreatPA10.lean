/- Texts joined by pack.py: lemmas for YtmgkeeefbfefgaaGreatDays. No condition. -/
import Derived.Test.YtmgkeeefbfefgaaGreatPA9
import Derived.RangeFuncIn
import Derived.LoopNIn
import Derived.ProofKit
import Derived.Lib.SlicesCompact
set_option linter.unusedSimpArgs false
set_option linter.unusedVariables false
set_option linter.defProp false
section
set_option linter.unusedVariables false
set_option linter.unusedSimpArgs false
namespace Go.Eng
open Go
section yields
variable {P : Program} {l : Option Nat} {h : Heap} {e : Env} {d : List Deferred} {k : Cont}
def CallY (P : Program) (v : Value) (vs : List Value) (h : Heap) (K : Value → Heap → Prop) : Prop :=
  ∀ (er : Env) (f : Operand) (xs : Array Operand) (ats : Array TypeId) (ty : TypeId), ev er f = v → (xs.map (ev er)).toList = vs → opSem P (.call ⟨.value f, xs, ats⟩) ty er h K
theorem CallY.run {v : Value} {vs : List Value} {K K' : Value → Heap → Prop} (H : CallY P v vs h K) {er : Env} {f : Operand} {xs : Array Operand} {ats : Array TypeId} {ty : TypeId} (hf : ev er f = v) (hx : (xs.map (ev er)).toList = vs)
    (hk : ∀ v h, K v h → K' v h) : opSem P (.call ⟨.value f, xs, ats⟩) ty er h K' := opSem_mono hk (H er f xs ats ty hf hx)
theorem CallY.run1 {v u : Value} {K K' : Value → Heap → Prop} (H : CallY P v [u] h K) {er : Env} {f x : Operand} {ats : Array TypeId} {ty : TypeId} (hf : ev er f = v) (hx : ev er x = u)
    (hk : ∀ v h, K v h → K' v h) : opSem P (.call ⟨.value f, #[x], ats⟩) ty er h K' := opSem_mono hk (H er f #[x] ats ty hf (by simp [hx]))
theorem callV_yield {lo : Nat} {first caps args : Array Value} {K : Value → Heap → Prop} {F : Prop} : callV P (.func (.yield lo) first caps) args h K F = F := by unfold callV; rfl
theorem yrun_getLoop {w : World} {r : Nat} {rec : Loop} (hr : w.heap[r]? = some (.loop rec)) : (Instr.getLoop r).run P w = .ok rec w := by
  simp [Instr.getLoop, getObj, Sem.run, hr, Result.andThen]
theorem yrun_setLoop {w : World} {r : Nat} {rec : Loop} (hr : w.heap[r]? = some (.loop rec)) (o : Obj) : (setObj r o).run P w = .ok () { w with heap := w.heap.setIfInBounds r o } := by
  simp [setObj, Sem.run, hr]
theorem yrun_yield {w : World} {r : Nat} {rec : Loop} (hr : w.heap[r]? = some (.loop rec)) {args : Array Value} (hs : args.size = rec.params.size) :
    (Instr.yield r args).run P w = .ok (.round r rec.fn ((rec.params.zip args).foldl (fun tmps (x : Tmp × Value) => tmps.setIfInBounds x.1 x.2) rec.tmps) rec.assign rec.body) w := by
  simp [Instr.yield, yrun_getLoop hr, Result.andThen, hs]
theorem yrun_begin {w : World} {r : Nat} {rec : Loop} (hr : w.heap[r]? = some (.loop rec)) (hs : rec.state = .ready) :
    (Instr.beginRound r).run P w = .ok () { w with heap := w.heap.setIfInBounds r (.loop { rec with state := .busy }) } := by
  simp [Instr.beginRound, yrun_getLoop hr, yrun_setLoop hr, Result.andThen, hs]
theorem yrun_end {w : World} {r : Nat} {rec : Loop} (hr : w.heap[r]? = some (.loop rec)) (j : Option Code) :
    (Instr.endRound r j).run P w = .ok (.bool j.isNone) { w with heap := w.heap.setIfInBounds r (.loop { rec with state := if j.isNone then .ready else .done, pending := j }) } := by
  simp [Instr.endRound, yrun_getLoop hr, yrun_setLoop hr, Result.andThen]
theorem yrun_endLoop {w : World} {r : Nat} {rec : Loop} (hr : w.heap[r]? = some (.loop rec)) (hs : rec.state ≠ .busy) :
    (Instr.endLoop r).run P w = .ok rec.pending { w with heap := w.heap.setIfInBounds r (.loop { rec with state := .exhausted }) } := by
  have : (rec.state == LoopState.busy) = false := by cases hst : rec.state <;> first | rfl | exact absurd hst hs
  simp [Instr.endLoop, yrun_getLoop hr, yrun_setLoop hr, Result.andThen, this]
  intro hh; exact absurd hh hs
theorem yfoldl_arr : ∀ (l : List (Tmp × Value)) (a : Array Value), (l.foldl (fun tmps (x : Tmp × Value) => tmps.setIfInBounds x.1 x.2) a).toList = l.foldl (fun er (x : Tmp × Value) => er.set x.1 x.2) a.toList
  | [], a => rfl
  | x :: l, a => by
    simp only [List.foldl_cons]
    rw [yfoldl_arr l]
    simp
theorem yrun_enter {w : World} {fn : FuncId} {tmps : Array Value} {ps : Array Tmp} {a b : Code} : (Instr.enterLoop fn tmps ps a b none).run P w = .ok (w.heap.size + 1, [{ target := .collected w.heap.size, args := #[] }])
    { w with heap := (w.heap.push (.deferred (some []))).push (.loop { state := .ready, pending := none, fn, tmps, params := ps, assign := a, body := b, defers := w.heap.size }) } := by
  simp [Instr.enterLoop, newObj, Sem.run, Result.andThen]
  exact ⟨rfl, rfl, rfl⟩
def binds : List Tmp → List Value → Env → Env
  | p :: ps, v :: vs, e => binds ps vs (e.set p v)
  | _, _, e => e
theorem binds_cons {p : Tmp} {ps : List Tmp} {v : Value} {vs : List Value} {e : Env} : binds (p :: ps) (v :: vs) e = binds ps vs (e.set p v) := eqi rfl
theorem binds_nil {vs : List Value} {e : Env} : binds [] vs e = e := by simp [binds]
theorem binds_eq : ∀ (ps : List Tmp) (vs : List Value) (e : Env), binds ps vs e = (ps.zip vs).foldl (fun er (x : Tmp × Value) => er.set x.1 x.2) e
  | [], vs, e => by simp [binds]
  | p :: ps, [], e => by simp [binds]
  | p :: ps, v :: vs, e => by simp [binds, binds_eq ps vs]
def endY (lo : Nat) (K : Value → Heap → Prop) : Cont := fun x _ _ h => ∃ rec, h[lo]? = some (.loop rec) ∧ match x with
  | .normal => K (.bool true) (h.setIfInBounds lo (.loop { rec with state := .ready, pending := none }))
  | .ret => K (.bool false) (h.setIfInBounds lo (.loop { rec with state := .done, pending := some .ret }))
  | .exit i => K (.bool false) (h.setIfInBounds lo (.loop { rec with state := .done, pending := some (.exit i) }))
  | .goto i => K (.bool false) (h.setIfInBounds lo (.loop { rec with state := .done, pending := some (.goto i) }))
  | _ => False
def asgY (P : Program) (lo : Nat) (body : Code) (K : Value → Heap → Prop) : Cont := fun x e d h => x = .normal ∧ ∃ rec, h[lo]? = some (.loop rec) ∧ rec.state = .ready ∧
  exec (some lo) P body (endY lo K) e d (h.setIfInBounds lo (.loop { rec with state := .busy }))
theorem callY_yield {lo : Nat} {rec : Loop} {vs : List Value} {K : Value → Heap → Prop} (hr : h[lo]? = some (.loop rec)) (hsz : vs.length = rec.params.size)
    (H : exec (some lo) P rec.assign (asgY P lo rec.body K) (binds rec.params.toList vs rec.tmps.toList) [] h) : CallY P (.func (.yield lo) #[] #[]) vs h K := by
  intro er f xs ats ty hf hx
  unfold opSem
  refine And.intro rfl fun w hw => ?_
  subst hw
  have hargs : xs.map (ev er) = vs.toArray := by apply Array.toList_inj.1; simpa using hx
  have hrun : (execOp (ev er) { dst := none, op := .call ⟨.value f, xs, ats⟩, type := ty, pos := "", after := #[], guard := none }).run P w = .ok (.round lo rec.fn ((rec.params.zip vs.toArray).foldl (fun tmps (x : Tmp × Value) => tmps.setIfInBounds x.1 x.2) rec.tmps) rec.assign rec.body) w := by
    have := yrun_yield (P := P) hr (args := vs.toArray) (by simpa using hsz)
    simp only [execOp, resolve, hf, Deferred.ofValue, invoke, Sem.run_bind, Sem.run_pure, Result.andThen_ok, hargs, Array.empty_append, this]
  rw [hrun]
  refine ⟨Eng.Rest.refl w, roundIn_of_wpIn trivial ?_⟩
  have ha := exec_sound _ _ _ _ _ H
  unfold WP at ha
  have ha := ha w rfl
  have htm : (binds rec.params.toList vs rec.tmps.toList).toArray = ((rec.params.zip vs.toArray).foldl (fun tmps (x : Tmp × Value) => tmps.setIfInBounds x.1 x.2) rec.tmps) := by
    apply Array.toList_inj.1
    rw [← Array.foldl_toList, yfoldl_arr, binds_eq]
    simp
  rw [← htm]
  refine wpIn_mono ha ?_
  rintro x1 a1 w1 ⟨⟨hx1, rec1, b1, b2, b3⟩, hr1⟩
  subst hx1
  refine ⟨_, yrun_begin (P := P) b1 b2, ?_⟩
  have hb := exec_sound _ _ _ _ _ b3
  unfold WP at hb
  have hb := hb { w1 with heap := w1.heap.setIfInBounds lo (.loop { rec1 with state := .busy }) } rfl
  rw [toList_act] at hb
  refine wpIn_mono hb ?_
  rintro x2 a2 w2 ⟨⟨rec2, c1, c2⟩, hr2⟩
  have hrest : Eng.Rest w w2 := hr1.trans ⟨hr2.os, hr2.tape, hr2.output⟩
  cases x2 with
  | normal => exact ⟨_, _, yrun_end (P := P) c1 none, _, rfl, c2, hrest.trans ⟨rfl, rfl, rfl⟩⟩
  | ret => exact ⟨_, _, yrun_end (P := P) c1 (some .ret), _, rfl, c2, hrest.trans ⟨rfl, rfl, rfl⟩⟩
  | exit i => exact ⟨_, _, yrun_end (P := P) c1 (some (.exit i)), _, rfl, c2, hrest.trans ⟨rfl, rfl, rfl⟩⟩
  | goto i => exact ⟨_, _, yrun_end (P := P) c1 (some (.goto i)), _, rfl, c2, hrest.trans ⟨rfl, rfl, rfl⟩⟩
  | _ => exact c2.elim
def mkD (r : Nat) : Deferred := { target := .collected r, args := #[] }
def endF (l : Option Nat) (P : Program) (lo : Nat) (k : Cont) (e : Env) (d : List Deferred) (h : Heap) : Prop := ∃ rec, h[lo]? = some (.loop rec) ∧ rec.state ≠ .busy ∧ (match rec.pending with
  | none => k .normal e d (h.setIfInBounds lo (.loop { rec with state := .exhausted }))
  | some j => exec l P j k e d (h.setIfInBounds lo (.loop { rec with state := .exhausted })))
theorem WP_range {f : Operand} {ps : Array Tmp} {a b : Code} {gf : FuncId} {first caps : Array Value} (hf : ev e f = .func (.func gf) first caps)
    (H : ∀ fn : FuncId, CallsH P gf (first ++ #[.func (.yield (h.size + 1)) #[] #[]] ++ caps) ((h.push (.deferred (some []))).push (.loop { state := .ready, pending := none, fn, tmps := e.toArray, params := ps, assign := a, body := b, defers := h.size }))
      (fun _ h2 => endF none P (h.size + 1) k e (mkD h.size :: d) h2)) : WP none P (.rangeFunc f ps a b) k e d h := by
  unfold WP
  intro w hw
  subst hw
  refine wpIn_rangeFunc fun fn _ => ?_
  have hcl := H fn
  unfold CallsH at hcl
  obtain ⟨hbod, hcl⟩ := hcl
  obtain ⟨W1, hW1⟩ : ∃ W1 : World, W1 = { w with heap := (w.heap.push (.deferred (some []))).push (.loop { state := .ready, pending := none, fn, tmps := e.toArray, params := ps, assign := a, body := b, defers := w.heap.size }) } := ⟨_, rfl⟩
  have hcw := hcl W1 (by rw [hW1])
  unfold CallsW at hcw
  refine ⟨w.heap.size + 1, [mkD w.heap.size], W1, ⟨.fn (.func gf) caps, first ++ #[.func (.yield (w.heap.size + 1)) #[] #[]]⟩, W1, gf, first ++ #[.func (.yield (w.heap.size + 1)) #[] #[]] ++ caps, W1, ?_, ?_, fun _ _ => trivial, ?_, fun hh => by simp [fen_depth] at hh, callsIn_of none ?_⟩
  · rw [hW1]
    exact yrun_enter
  · have hev : ev e (.const (.func (.yield (w.heap.size + 1)) #[] #[])) = .func (.yield (w.heap.size + 1)) #[] #[] := rfl
    rw [eval_ev]
    simp only [resolve, hf, Deferred.ofValue, Sem.run_pure, List.map_toArray, List.map_cons, List.map_nil, hev]
  · show (callFunc gf _).run P _ = _
    exact call_run hbod _
  · refine Calls.mono hcw ?_
    rintro e' w3 ⟨v, rfl, ⟨rec, q1, q2, q3⟩, hr3⟩
    have hr3 : Eng.Rest w w3 := by rw [hW1] at hr3; exact ⟨hr3.os, hr3.tape, hr3.output⟩
    refine ⟨_, _, yrun_endLoop (P := P) q1 q2, ?_⟩
    cases hp : rec.pending with
    | none =>
      rw [hp] at q3
      exact ⟨q3, ⟨hr3.os, hr3.tape, hr3.output⟩⟩
    | some j =>
      rw [hp] at q3
      have hb := exec_sound _ _ _ _ _ q3
      unfold WP at hb
      rw [← hp] at hb
      have hb := hb { w3 with heap := w3.heap.setIfInBounds (w.heap.size + 1) (.loop { rec with state := .exhausted }) } rfl
      rw [hp] at hb
      refine wpIn_mono hb ?_
      rintro x a' w4 ⟨c1, c2⟩
      exact ⟨c1, hr3.trans ⟨c2.os, c2.tape, c2.output⟩⟩
theorem ystepR_scope {b : Frame} {a : Act} {k : List Item} {cs : List Frame} {w : World} {c : Code} : Go.step P (lone (b.atR a (.code (.scope c) :: k)) cs w) = .next (lone (b.atR a (.code c :: .inScope c :: k)) cs w) :=
  step_lone_go (by simp [stepG, stepG.exec, Frame.atR])
theorem ystepR_inScope {b : Frame} {a : Act} {k : List Item} {cs : List Frame} {w : World} {c : Code} : Go.step P (lone (b.atR a (.inScope c :: k)) cs w) = .next (lone (b.atR a k) cs w) :=
  step_lone_go (by simp [stepG, stepG.exec, Frame.atR])
theorem ywpIn_scope {F : Fence} {n : Nat} {Q : Exit → Act → World → Prop} {a : Act} {w : World} {c : Code} (hc : c.wpIn F n P (fun x a w => (∀ i, x ≠ .goto i) ∧ Q x a w) a w) : (Code.scope c).wpIn F n P Q a w := by
  intro b k cs hro hb hr
  have h0 : (lone (b.atR a (.code (.scope c) :: k)) cs w).fenced P F := fenced_calm hb hr rfl
  obtain ⟨e, a₁, w₁, hq, harr⟩ := hc b (.inScope c :: k) cs hro hb hr
  cases e with
  | normal => exact ⟨.normal, a₁, w₁, hq.2, .head h0 ystepR_scope (StepsIn.trans harr (.one (fenced_calm hb hr rfl) ystepR_inScope))⟩
  | exit id =>
    have hx : exitTo id (.inScope c :: k) = exitTo id k := by simp [exitTo]
    exact ⟨.exit id, a₁, w₁, hq.2, fun k' hk => .head h0 ystepR_scope (harr.1 k' (by rw [hx]; exact hk)),
      fun hr' hk => let ⟨k₁, h1, h2⟩ := harr.2 hr' (by rw [hx]; exact hk); ⟨k₁, h1, .head h0 ystepR_scope h2⟩⟩
  | goto l => exact absurd rfl (hq.1 l)
  | ret => exact ⟨_, a₁, w₁, hq.2, .of_steps (.one h0 ystepR_scope) harr⟩
  | panic ch => exact ⟨_, a₁, w₁, hq.2, .of_steps (.one h0 ystepR_scope) harr⟩
  | outgrown => exact ⟨_, a₁, w₁, hq.2, .of_steps (.one h0 ystepR_scope) harr⟩
theorem WP_range' {f : Operand} {ps : Array Tmp} {a b : Code} {gf : FuncId} {first caps : Array Value} (hf : ev e f = .func (.func gf) first caps)
    (H : ∀ R : Loop, R.state = .ready → R.pending = none → R.tmps = e.toArray → R.params = ps → R.assign = a → R.body = b → R.defers = h.size →
      CallsH P gf (first ++ #[.func (.yield (h.size + 1)) #[] #[]] ++ caps) ((h.push (.deferred (some []))).push (.loop R)) (fun _ h2 => endF none P (h.size + 1) k e (mkD h.size :: d) h2)) : WP none P (.rangeFunc f ps a b) k e d h :=
  WP_range hf fun fn => H _ rfl rfl rfl rfl rfl rfl rfl
theorem Loop.back {R : Loop} (h1 : R.state = .ready) (h2 : R.pending = none) : ({ ({ R with state := .busy } : Loop) with state := .ready, pending := none } : Loop) = R := by
  cases R; simp_all
def scopeK (k : Cont) : Cont := fun x e d h => (∀ i, x ≠ .goto i) ∧ k x e d h
theorem WP_scope {c : Code} (H : exec l P c (scopeK k) e d h) : WP l P (.scope c) k e d h := by
  have hb := exec_sound _ _ _ _ _ H
  unfold WP at *
  intro w hw
  refine ywpIn_scope (wpIn_mono (hb w hw) ?_)
  rintro x a' w' ⟨⟨c1, c2⟩, hr⟩
  exact ⟨c1, c2, hr⟩
theorem exec_scope {c : Code} (H : exec l P c (scopeK k) e d h) : exec l P (.scope c) k e d h := by
  unfold exec
  exact WP_scope H
theorem scopeK_normal : scopeK k .normal e d h = k .normal e d h := eqi (propext ⟨fun H => H.2, fun H => ⟨fun _ hi => (by cases hi), H⟩⟩)
theorem scopeK_ret : scopeK k .ret e d h = k .ret e d h := eqi (propext ⟨fun H => H.2, fun H => ⟨fun _ hi => (by cases hi), H⟩⟩)
theorem scopeK_exit {i : Nat} : scopeK k (.exit i) e d h = k (.exit i) e d h := eqi (propext ⟨fun H => H.2, fun H => ⟨fun _ hi => (by cases hi), H⟩⟩)
theorem fin_mark {rs : List ResultVar} {K : Value → Heap → Prop} {r : Nat} (hr : h[r]? = some (.deferred (some []))) (H : resA P rs e [] K (h.setIfInBounds r (.deferred none))) : finW P rs e [mkD r] h K := by
  unfold finW
  exact ⟨⟨r, rfl, hr, trivial⟩, H⟩
theorem asgY_normal {lo : Nat} {body : Code} {K : Value → Heap → Prop} {rec : Loop} (hr : h[lo]? = some (.loop rec)) (hs : rec.state = .ready) (H : exec (some lo) P body (endY lo K) e d (h.setIfInBounds lo (.loop { rec with state := .busy }))) : asgY P lo body K .normal e d h :=
  ⟨rfl, rec, hr, hs, H⟩
theorem Upd.set {b : Nat} {o : Obj} : Upd h (h.setIfInBounds b o) b := ⟨by simp, fun b' hb => Array.getElem?_setIfInBounds_ne (Ne.symm hb)⟩
theorem set_get {b : Nat} {o : Obj} (hb : b < h.size) : (h.setIfInBounds b o)[b]? = some o := by simp [hb]
def SeqOf (P : Program) (v : Value) (F : Heap → Prop) (xss : List (List Value)) : Prop :=
  ∃ q first caps, v = .func (.func q) first caps ∧ ∀ (lo : Nat) (h0 : Heap) (J : Nat → Heap → Prop) (E : Heap → Prop), (∀ i h', J i h' → F h') → J 0 h0 →
    (∀ i h' vs, xss[i]? = some vs → J i h' → CallY P (.func (.yield lo) #[] #[]) vs h' (fun v h'' => (v = .bool true ∧ J (i + 1) h'') ∨ (v = .bool false ∧ E h''))) →
    CallsH P q (first ++ #[.func (.yield lo) #[] #[]] ++ caps) h0 (fun _ h' => J xss.length h' ∨ E h')
def endI (lo : Nat) (o : Obj) (K : Heap → Prop) (Br : Code → Heap → Prop) : Cont := fun x _ _ h => h[lo]? = some o ∧ match x with
  | .normal => K h
  | .ret => Br .ret h
  | .exit i => Br (.exit i) h
  | _ => False
def asgI (P : Program) (lo : Nat) (o : Obj) (b : Code) (K : Heap → Prop) (Br : Code → Heap → Prop) : Cont := fun x e d h => x = .normal ∧ h[lo]? = some o ∧
  ∀ h2 o2, Upd h h2 lo → h2[lo]? = some o2 → exec (some lo) P b (endI lo o2 K Br) e d h2
theorem endI_normal {lo : Nat} {o : Obj} {K : Heap → Prop} {Br : Code → Heap → Prop} : endI lo o K Br .normal e d h = (h[lo]? = some o ∧ K h) := eqi rfl
theorem asgI_normal {lo : Nat} {o : Obj} {b : Code} {K : Heap → Prop} {Br : Code → Heap → Prop} : asgI P lo o b K Br .normal e d h = (h[lo]? = some o ∧
  ∀ h2 o2, Upd h h2 lo → h2[lo]? = some o2 → exec (some lo) P b (endI lo o2 K Br) e d h2) := eqi (propext ⟨fun H => H.2, fun H => ⟨rfl, H⟩⟩)
theorem WP_rangeI {f : Operand} {ps : Array Tmp} {a b : Code} {v : Value} {F : Heap → Prop} {xss : List (List Value)} (hf : ev e f = v) (hseq : SeqOf P v F xss) (Inv : Nat → Heap → Prop) (Br : Code → Heap → Prop)
    (hps : ∀ vs ∈ xss, vs.length = ps.size)
    (hext : ∀ i h', Inv i h' → F h')
    (hupd : ∀ i h1 h2, Inv i h1 → Upd h1 h2 (h.size + 1) → Inv i h2) (bupd : ∀ j h1 h2, Br j h1 → Upd h1 h2 (h.size + 1) → Br j h2)
    (start : ∀ h', Ext h h' → h'[h.size]? = some (.deferred (some [])) → h'.size = h.size + 2 → Inv 0 h')
    (round : ∀ i h' vs o, xss[i]? = some vs → Inv i h' → h'[h.size + 1]? = some o → exec (some (h.size + 1)) P a (asgI P (h.size + 1) o b (Inv (i + 1)) Br) (binds ps.toList vs e) [] h')
    (fin : ∀ h', Inv xss.length h' → k .normal e (mkD h.size :: d) h')
    (brk : ∀ j h', Br j h' → exec none P j k e (mkD h.size :: d) h') : WP none P (.rangeFunc f ps a b) k e d h := by
  obtain ⟨q, first, caps, rfl, hq⟩ := hseq
  refine WP_range' hf ?_
  intro R R1 R2 R3 R4 R5 R6 R7
  have hsz : (h.push (.deferred (some []))).size = h.size + 1 := by simp
  refine CallsH.mono (hq (h.size + 1) _ (fun i h' => Inv i h' ∧ h'[h.size + 1]? = some (.loop R)) (fun h' => ∃ (rec : Loop) (j : Code), h'[h.size + 1]? = some (.loop rec) ∧ rec.state = .done ∧ rec.pending = some j ∧ Br j h') (fun i h' H => hext i h' H.1) ?_ ?_) ?_
  · refine ⟨start _ (((Ext.refl h).push _).push _) (push_old push_new) (by simp), ?_⟩
    have := push_new (h := h.push (.deferred (some []))) (o := .loop R)
    rwa [hsz] at this
  · rintro i h' vs hvs ⟨hI, hR⟩
    refine callY_yield hR (by rw [R4]; exact hps _ (List.mem_of_getElem? hvs)) ?_
    rw [R3, R4, R5, R6, List.toList_toArray]
    refine exec_mono a ?_ _ _ _ (round i h' vs _ hvs hI hR)
    rintro x e2 d2 h2 ⟨rfl, h2o, H⟩
    refine asgY_normal h2o R1 ?_
    refine exec_mono b ?_ _ _ _ (H _ _ Upd.set (set_get (lt_of_get h2o)))
    rintro x e3 d3 h3 ⟨h3o, H3⟩
    cases x with
    | normal =>
      refine ⟨_, h3o, ?_⟩
      refine .inl ⟨rfl, hupd _ _ _ H3 Upd.set, ?_⟩
      show (h3.setIfInBounds _ _)[_]? = _
      rw [set_get (lt_of_get h3o), Loop.back R1 R2]
    | ret =>
      refine ⟨_, h3o, ?_⟩
      exact .inr ⟨rfl, _, _, set_get (lt_of_get h3o), rfl, rfl, bupd _ _ _ H3 Upd.set⟩
    | exit j =>
      refine ⟨_, h3o, ?_⟩
      exact .inr ⟨rfl, _, _, set_get (lt_of_get h3o), rfl, rfl, bupd _ _ _ H3 Upd.set⟩
    | _ => exact H3.elim
  · rintro v h' (⟨hI, hR⟩ | ⟨rec, j, hR, hst, hpd, hB⟩)
    · refine ⟨_, hR, by rw [R1]; decide, ?_⟩
      rw [R2]
      exact fin _ (hupd _ _ _ hI Upd.set)
    · refine ⟨_, hR, by rw [hst]; decide, ?_⟩
      rw [hpd]
      exact brk _ _ (bupd _ _ _ hB Upd.set)
end yields
end Go.Eng
end
section
namespace Go.Proofs.YtmgkeeefbfefgaaGreat
set_option linter.unusedSimpArgs false
set_option linter.unusedVariables false
set_option linter.defProp false
set_option linter.unusedSectionVars false
namespace MB
open Go.Lib in
theorem compact_inc (d : Array Int) (hs : ∀ a b, a ≤ b → b < d.size → d[a]! ≤ d[b]!) : ∀ m, m ≤ d.size → (compactUpTo d m).Pairwise (· < ·) ∧ ∀ x, x ∈ compactUpTo d m ↔ ∃ j, j < m ∧ d[j]! = x
  | 0, _ => ⟨List.Pairwise.nil, fun x => ⟨fun h => absurd h List.not_mem_nil, fun ⟨j, h, _⟩ => by omega⟩⟩
  | m + 1, h => by
    obtain ⟨h1, h2⟩ := compact_inc d hs m (by omega)
    rw [compactUpTo_succ]
    by_cases hk : keeps d m = true
    · rw [if_pos hk]
      refine ⟨List.pairwise_append.2 ⟨h1, by simp, fun a ha b hb => ?_⟩, fun x => ?_⟩
      · obtain ⟨j, hj, rfl⟩ := (h2 a).1 ha
        rw [List.mem_singleton.1 hb]
        have hm : m ≠ 0 := by omega
        have hne : d[m]! ≠ d[m - 1]! := by
          have := of_decide_eq_true hk
          exact this.resolve_left hm
        have e1 := hs j (m - 1) (by omega) (by omega)
        have e2 := hs (m - 1) m (by omega) (by omega)
        omega
      · rw [List.mem_append, h2, List.mem_singleton]
        constructor
        · rintro (⟨j, hj, e⟩ | e)
          · exact ⟨j, by omega, e⟩
          · exact ⟨m, by omega, e.symm⟩
        · rintro ⟨j, hj, e⟩
          by_cases hjm : j = m
          · subst hjm; exact .inr e.symm
          · exact .inl ⟨j, by omega, e⟩
    · rw [if_neg hk, List.append_nil]
      refine ⟨h1, fun x => ?_⟩
      rw [h2]
      constructor
      · rintro ⟨j, hj, e⟩; exact ⟨j, by omega, e⟩
      · rintro ⟨j, hj, e⟩
        by_cases hjm : j = m
        · subst hjm
          have hk2 : ¬ (j = 0 ∨ d[j]! ≠ d[j - 1]!) := fun h => hk (decide_eq_true h)
          have h3 : j ≠ 0 := fun e => hk2 (.inl e)
          have h4 : d[j]! = d[j - 1]! := Classical.not_not.1 fun e => hk2 (.inr e)
          exact ⟨j - 1, by omega, h4.symm.trans e⟩
        · exact ⟨j, by omega, e⟩
theorem compact_dif {days : List Nat} {zs : List Int} (hp : zs.Perm (days.map fun x : Nat => (x : Int))) (hs : zs.Pairwise (· ≤ ·)) : (Lib.compact zs).length = dif days := by
  obtain ⟨u, h1, h2, h3⟩ := dif_ex days
  have hsz : zs.toArray.size = zs.length := by simp
  have hget : ∀ j, j < zs.length → ∃ h : j < zs.length, zs.toArray[j]! = zs[j] := fun j hj => ⟨hj, by simp [hj]⟩
  obtain ⟨c1, c2⟩ := compact_inc zs.toArray (fun a b hab hb => by
    rw [hsz] at hb
    obtain ⟨b1, b2⟩ := hget b hb
    obtain ⟨a1, a2⟩ := hget a (by omega)
    rw [a2, b2]
    by_cases e : a = b
    · subst e; omega
    · exact List.pairwise_iff_getElem.1 hs a b a1 b1 (by omega)) zs.length (by rw [hsz]; exact Nat.le_refl _)
  have c2 : ∀ x, x ∈ Lib.compact zs ↔ x ∈ zs := fun x => by
    show x ∈ Lib.compactUpTo zs.toArray zs.length ↔ _
    rw [c2]
    constructor
    · rintro ⟨j, hj, e⟩
      obtain ⟨h, e2⟩ := hget j hj
      rw [← e, e2]
      exact List.getElem_mem h
    · intro hx
      obtain ⟨j, hj, e⟩ := List.getElem_of_mem hx
      obtain ⟨h, e2⟩ := hget j hj
      exact ⟨j, hj, e2.trans e⟩
  have hmem : ∀ x, x ∈ Lib.compact zs ↔ ∃ y, y ∈ days ∧ (y : Int) = x := fun x => by
    rw [c2, hp.mem_iff, List.mem_map]
  have hn : ((Lib.compact zs).map Int.toNat).Nodup := by
    rw [List.Nodup, List.pairwise_map]
    have c1 : (Lib.compact zs).Pairwise (· < ·) := c1
    refine c1.imp_of_mem fun {a b} ha hb hlt e => ?_
    obtain ⟨x, _, rfl⟩ := (hmem a).1 ha
    obtain ⟨y, _, rfl⟩ := (hmem b).1 hb
    omega
  have := same_length hn h1 fun x => by
    rw [h2, List.mem_map]
    constructor
    · rintro ⟨a, ha, rfl⟩
      obtain ⟨y, hy, rfl⟩ := (hmem a).1 ha
      exact hy
    · intro hx
      exact ⟨x, (hmem x).2 ⟨x, hx, rfl⟩, rfl⟩
  rw [List.length_map] at this
  omega
end MB
end Go.Proofs.YtmgkeeefbfefgaaGreat
end
section
namespace Go.Proofs.YtmgkeeefbfefgaaGreat
open Go Go.Proofs Go.Eng Go.Run Tab Go.Sort
set_option maxRecDepth 100000
set_option linter.unusedSimpArgs false
set_option linter.unusedVariables false
set_option linter.defProp false
set_option maxHeartbeats 1000000
theorem holds_ints {w : World} {g : Nat} {xs : List Int} {tl : List Value} (hb : w.heap[g]? = some (.cells (Eng.ints xs ++ tl).toArray 3 (0, 0))) : Holds (Value.int .i64) w g 0 xs.toArray := by
  intro j hj
  have hj : j < xs.length := by simpa using hj
  refine ⟨?_, ?_⟩
  · simp only [World.cell?, hb, Nat.zero_add]
    rw [List.getElem?_toArray, List.getElem?_append_left (by rw [Eng.ints_length]; exact hj), Eng.ints_getElem? _ _ hj]
    simp [List.getD, hj]
  · simp [World.frozen?, hb]
theorem putRow_ints {w : World} {g : Nat} {xs ys : List Int} {tl : List Value} (hb : w.heap[g]? = some (.cells (Eng.ints xs ++ tl).toArray 3 (0, 0))) (hl : ys.length = xs.length) :
    (putRow (Value.int .i64) w g 0 ys.toArray).heap[g]? = some (.cells (Eng.ints ys ++ tl).toArray 3 (0, 0)) ∧ Upd w.heap (putRow (Value.int .i64) w g 0 ys.toArray).heap g := by
  have hg := lt_of_get hb
  refine ⟨?_, ?_, ?_⟩
  · simp only [putRow, mapBlock, Array.getElem?_modify, if_true, hb, Option.map_some, onCells]
    congr 2
    refine Array.ext_getElem? fun k => ?_
    simp only [putCells, Array.getElem?_mapIdx, List.getElem?_toArray, Nat.zero_le, true_and, Nat.zero_add, Nat.sub_zero, List.size_toArray]
    by_cases hk : k < ys.length
    · rw [List.getElem?_append_left (by rw [Eng.ints_length]; omega), List.getElem?_append_left (by rw [Eng.ints_length]; omega), Eng.ints_getElem? _ _ (by omega), Eng.ints_getElem? _ _ hk]
      simp [hk, List.getD]
    · rw [List.getElem?_append_right (by rw [Eng.ints_length]; omega), List.getElem?_append_right (by rw [Eng.ints_length]; omega), Eng.ints_length, Eng.ints_length, hl]
      cases tl[k - xs.length]? with
      | none => rfl
      | some v => simp [hk]; omega
  · simp [putRow, mapBlock]
  · intro b hne
    simp only [putRow, mapBlock, Array.getElem?_modify]
    rw [if_neg (fun e => hne e.symm)]
theorem calls_fin {P : Program} {f : FuncId} {args : Array Value} {K : Value → Eng.Heap → Prop} {h : Eng.Heap} (hb : bodied P f = true) (H : ∀ w : World, w.heap = h → Calls P f args w fun e w' => ∃ v, e = .returned v ∧ K v w'.heap ∧ w'.os = w.os ∧ w'.tape = w.tape ∧ w'.output = w.output) : CallsH P f args h K := by
  unfold CallsH CallsW
  refine ⟨hb, fun w hw => ?_⟩
  refine (H w hw).mono fun e w' ⟨v, he, hk, h1, h2, h3⟩ => ⟨v, he, hk, h1, h2, h3⟩
def srt (l : List Int) : Prop := l.Pairwise (· ≤ ·)
theorem msort_ok (xs : List Int) : (xs.mergeSort fun x y => decide (x ≤ y)).Perm xs ∧ srt (xs.mergeSort fun x y => decide (x ≤ y)) := by
  refine ⟨List.mergeSort_perm _ _, ?_⟩
  have := List.pairwise_mergeSort (le := fun x y : Int => decide (x ≤ y)) (fun a b c h1 h2 => by simp at *; omega) (fun a b => by simp; omega) xs
  exact this.imp fun h => by simpa using h
theorem sort73 (g c n : Nat) (xs : List Int) (tl : List Value) (h : Eng.Heap) (hb : h[g]? = some (.cells (Eng.ints xs ++ tl).toArray 3)) (hn : n = xs.length) (hl : n ≤ 1000000) :
    CallsH Tryz.prog 55 #[.slice (some ⟨g, 0, none⟩) n c] h (fun v h' => v = .tuple #[] ∧ (h.size ≤ h'.size ∧ ∀ b, b < h.size → b ≠ g → h'[b]? = h[b]?) ∧ ∃ ys, ys.Perm xs ∧ srt ys ∧ h'[g]? = some (.cells (Eng.ints ys ++ tl).toArray 3)) := by
  subst hn
  refine calls_fin (by kernel_rfl) fun w hw => ?_
  subst hw
  have hg := lt_of_get hb
  refine (Any.slices_Sort_int Tryz.lays189 g 0 c xs w (holds_ints hb) hg (by omega)).mono ?_
  rintro e w' ⟨rfl, n, os, rfl⟩
  obtain ⟨p1, p2⟩ := msort_ok xs
  have hb' : (Go.Sort.ahead w n).heap[g]? = some (.cells (Eng.ints xs ++ tl).toArray 3 (0, 0)) := hb
  obtain ⟨q1, q2⟩ := putRow_ints (ys := xs.mergeSort fun x y => decide (x ≤ y)) hb' p1.length_eq
  refine ⟨_, rfl, ⟨rfl, ⟨?_, fun b hbl hne => ?_⟩, _, p1, p2, ?_⟩, rfl, rfl, rfl⟩
  · show w.heap.size ≤ ((putRow _ _ _ _ _).heap ++ os).size
    rw [Array.size_append, q2.size]
    show w.heap.size ≤ w.heap.size + _
    omega
  · show ((putRow _ _ _ _ _).heap ++ os)[b]? = _
    rw [Array.getElem?_append_left (by rw [q2.size]; exact hbl), q2.old b hne]
    rfl
  · show ((putRow _ _ _ _ _).heap ++ os)[g]? = _
    rw [Array.getElem?_append_left (by rw [q2.size]; exact hg)]
    exact q1
theorem sort0 (a : Option Addr) (c : Nat) (h : Eng.Heap) : CallsH Tryz.prog 55 #[.slice a 0 c] h (fun v h' => v = .tuple #[] ∧ h' = h) := by
  refine calls_fin (by kernel_rfl) fun w hw => ?_
  subst hw
  refine (Any.slices_Sort_int_none Tryz.lays189 a c w).mono ?_
  rintro e w' ⟨rfl, rfl⟩
  exact ⟨_, rfl, ⟨rfl, rfl⟩, rfl, rfl, rfl⟩
theorem compact0 (a : Option Addr) (c : Nat) (h : Eng.Heap) : CallsH Tryz.prog 44 #[.slice a 0 c] h (fun v h' => v = .slice a 0 c ∧ h' = h) := by
  refine calls_fin (by kernel_rfl) fun w hw => ?_
  subst hw
  refine (Any.slices_Compact_int_empty Tryz.lays20 a c w).mono ?_
  rintro e w' ⟨rfl, rfl⟩
  exact ⟨_, rfl, ⟨rfl, rfl⟩, rfl, rfl, rfl⟩
theorem compact56 (g c n : Nat) (xs : List Int) (tl : List Value) (h : Eng.Heap) (hb : h[g]? = some (.cells (Eng.ints xs ++ tl).toArray 3)) (hn : n = xs.length) (hc : n ≤ c) (hl : n ≤ 1000000) :
    CallsH Tryz.prog 44 #[.slice (some ⟨g, 0, none⟩) n c] h (fun v h' => v = .slice (some ⟨g, 0, none⟩) (Lib.compact xs).length c ∧ Upd h h' g) := by
  subst hn
  refine calls_fin (by kernel_rfl) fun w hw => ?_
  subst hw
  refine (Any.slices_Compact_int Tryz.lays20 g 0 c xs w (holds_ints hb) (by omega) hc).mono ?_
  rintro e w' ⟨rfl, n, rfl⟩
  refine ⟨_, rfl, ⟨rfl, ⟨?_, ?_⟩⟩, rfl, rfl, rfl⟩
  · simp [putRow, mapBlock, Go.Sort.ahead]
  · intro b hne
    simp only [putRow, mapBlock, Array.getElem?_modify]
    rw [if_neg (fun e => hne e.symm)]
    rfl
theorem sort73_own (m n c : Nat) (a : Option Addr) (xs : List Int) (h : Eng.Heap) (O : OwnI m h 3 a n c xs) (hl : n ≤ 1000000) :
    CallsH Tryz.prog 55 #[.slice a n c] h (fun v h' => v = .tuple #[] ∧ (h.size ≤ h'.size ∧ ∀ b, b < h.size → b < m → h'[b]? = h[b]?) ∧ ∃ ys, ys.Perm xs ∧ srt ys ∧ OwnI m h' 3 a n c ys) := by
  have hn := O.ln
  by_cases h0 : 0 < n
  · obtain ⟨g, tl, rfl, hg, hb, hc, hc2, _⟩ := O.block h0
    refine CallsH.mono (sort73 g c n xs tl h hb hn hl) ?_
    rintro v h' ⟨rfl, ⟨q1, q2⟩, ys, hp, hs, hb2⟩
    have e := hp.length_eq
    refine ⟨rfl, ⟨q1, fun b h1 h2 => q2 b h1 (by omega)⟩, ys, hp, hs, ?_⟩
    have := OwnI.of_block (xs := ys) (cap := c) hg hb2 (by omega) (by omega)
    rwa [show ys.length = n by omega] at this
  · obtain rfl : n = 0 := by omega
    refine CallsH.mono (sort0 a c h) ?_
    rintro v h' ⟨rfl, rfl⟩
    obtain rfl : xs = [] := List.length_eq_zero_iff.1 hn.symm
    exact ⟨rfl, ⟨Nat.le_refl _, fun b _ _ => rfl⟩, [], List.Perm.refl _, List.Pairwise.nil, O⟩
end Go.Proofs.YtmgkeeefbfefgaaGreat
end
section
namespace Go.Proofs.YtmgkeeefbfefgaaGreat
open Go Go.Proofs Go.Eng Go.Run Tab
set_option maxRecDepth 100000
set_option linter.unusedSimpArgs false
set_option linter.unusedVariables false
set_option maxHeartbeats 1000000
set_option linter.defProp false
def M9Fs72 := (And.intro (And.intro (And.intro @agg25 @agg3) (And.intro @by3 @inf25)) (And.intro (And.intro @inf3 @sz25) (And.intro @sz3 @Tryz.underlying25)))
def M9Fs85 := (And.intro (And.intro (And.intro @agg25 @by3) (And.intro @inf25 @inf3)) (And.intro (And.intro @sz25 @sz3) (And.intro @zero3 @Tryz.underlying25)))
theorem app25 {h : Eng.Heap} {er : Env} {ty : TypeId} {m0 : Nat} {x y : Operand} {a b : Option Addr} {len cap m c : Nat} {xs ys : List Int} {K : Value → Eng.Heap → Prop} (hx : ev er x = .slice a len cap) (hy : ev er y = .slice b m c) (O : OwnI m0 h 3 a len cap xs) (h0h : m0 ≤ h.size) (I : IntsV h b m ys) (hb : len + m ≤ 100000)
    (H : ∀ a' cap' h', OwnI m0 h' 3 a' (len + m) cap' (xs ++ ys) → App h h' a a' → K (.slice a' (len + m) cap') h') : opSem Tryz.prog (.call ⟨.builtin .append, #[x, y], #[25, 25]⟩) ty er h K :=
  append_intsT Tryz.underlying25 Tryz.underlying25 inf3 sz3 (by rw [by3]; decide) zero3 hx hy O h0h I hb H
def yis (xs : List Int) : List (List Value) := xs.map fun x => [.int .i64 x]
theorem values87 (lo bx n c : Nat) (a : Option Addr) (xs : List Int) (h : Eng.Heap) (hn : n = xs.length) (hl : n ≤ 1000000) (J : Nat → Eng.Heap → Prop) (E : Eng.Heap → Prop)
    (hx : ∀ i h', J i h' → h'[bx]? = some (.cells #[.slice a n c] 25) ∧ IntsV h' a n xs) (h0 : J 0 h)
    (step : ∀ i h' vs, (yis xs)[i]? = some vs → J i h' → CallY Tryz.prog (.func (.yield lo) #[] #[]) vs h' (fun v h'' => (v = .bool true ∧ J (i + 1) h'') ∨ (v = .bool false ∧ E h''))) :
    CallsH Tryz.prog 72 (#[] ++ #[.func (.yield lo) #[] #[]] ++ #[.pointer (some ⟨bx, 0, none⟩)]) h (fun v h' => J (yis xs).length h' ∨ E h') := by
  simp only [Array.append_empty, Array.empty_append, List.append_toArray, List.cons_append, List.nil_append]
  (refine CallsH_of_exec Tryz.func72 rfl bod72 ?_; simp only [Tryz.ntmps72, Tryz.results72, coreS, stK_some, splice, Value.cells, Value.oneCell', Nat.reduceAdd, Nat.reduceSub, Nat.reduceMul, Nat.reduceLeDiff, Int.reduceEq, Nat.reduceEqDiff, M9Fs72])
  simp only [(hx 0 h h0).1, coreS, Value.cells, Value.oneCell', Nat.reduceAdd, Nat.reduceSub, Nat.reduceMul, Nat.reduceLeDiff, Int.reduceEq, Nat.reduceEqDiff, M9Fs72]
  refine WP_loopI [4, 7, 8, 9, 10, 11, 12, 13, 14, 15] (fun g h' => ∃ i : Nat, i ≤ n ∧ g 7 = .int .i64 i ∧ J i h') (fun g _ => match g 7 with | .int _ m => n - m.toNat | _ => 0) ?_ ?_
  · exact ⟨0, by omega, rfl, h0⟩
  · rintro g h' ⟨i, hi, hg, hJ⟩
    have hv := (hx i h' hJ).2
    simp only [hg, coreS, Value.cells, Value.oneCell', Nat.reduceAdd, Nat.reduceSub, Nat.reduceMul, Nat.reduceLeDiff, Int.reduceEq, Nat.reduceEqDiff, M9Fs72]
    refine ⟨fun hlt => ?_, fun hge => ?_⟩
    · have hil : i < xs.length := by omega
      simp only [hv.cell hil, coreS, Value.cells, Value.oneCell', Nat.reduceAdd, Nat.reduceSub, Nat.reduceMul, Nat.reduceLeDiff, Int.reduceEq, Nat.reduceEqDiff, scopeK_normal, scopeK_ret, scopeK_exit, callV_yield, binds_cons, binds_nil, M9Fs72]
      refine ⟨⟨by omega, by omega⟩, hv.isSome (by omega), ?_⟩
      have hst := step i h' [.int .i64 (xs.getD i 0)] (by simp [yis, List.getD, List.getElem?_eq_getElem hil]) hJ
      refine hst.run1 rfl rfl ?_
      rintro v h2 (⟨rfl, hJ2⟩ | ⟨rfl, hE⟩)
      · simp only [coreS, Value.cells, Value.oneCell', Nat.reduceAdd, Nat.reduceSub, Nat.reduceMul, Nat.reduceLeDiff, Int.reduceEq, Nat.reduceEqDiff, scopeK_normal, scopeK_ret, scopeK_exit, callV_yield, binds_cons, binds_nil, M9Fs72]
        refine ⟨by rw [inK_i64]; omega, roundK_mk (by kernel_rfl) ⟨i + 1, by omega, rfl, hJ2⟩ ?_⟩
        show n - ((i : Int) + 1).toNat < n - (i : Int).toNat
        omega
      · simp only [coreS, Value.cells, Value.oneCell', Nat.reduceAdd, Nat.reduceSub, Nat.reduceMul, Nat.reduceLeDiff, Int.reduceEq, Nat.reduceEqDiff, scopeK_normal, scopeK_ret, scopeK_exit, callV_yield, binds_cons, binds_nil, M9Fs72]
        exact .inr hE
    · have : i = n := by omega
      subst this
      left
      have e : (yis xs).length = xs.length := by simp [yis]
      rw [e, ← hn]
      exact hJ
theorem values_seq {bx n c : Nat} {a : Option Addr} {xs : List Int} (hn : n = xs.length) (hl : n ≤ 1000000) :
    SeqOf Tryz.prog (.func (.func 72) #[] #[.pointer (some ⟨bx, 0, none⟩)]) (fun h' => h'[bx]? = some (.cells #[.slice a n c] 25) ∧ IntsV h' a n xs) (yis xs) :=
  ⟨72, _, _, rfl, fun lo h0 J E hx hJ step => values87 lo bx n c a xs h0 hn hl J E hx hJ step⟩
theorem values55 (a : Option Addr) (n c : Nat) (h : Eng.Heap) : CallsH Tryz.prog 43 #[.slice a n c] h (fun v h' => v = .func (.func 72) #[] #[.pointer (some ⟨h.size, 0, none⟩)] ∧ h' = h.push (.cells #[.slice a n c] 25)) := by
  (refine CallsH_of_exec Tryz.func43 rfl bod43 ?_; simp only [Tryz.ntmps43, Tryz.results43, coreS, stK_some, splice, Value.cells, Value.oneCell', Nat.reduceAdd, Nat.reduceSub, Nat.reduceMul, Nat.reduceLeDiff, Int.reduceEq, Nat.reduceEqDiff])
theorem appendSeq99 (v : Value) (xs : List Int) {F : Eng.Heap → Prop} (h : Eng.Heap) (hseq : SeqOf Tryz.prog v F (yis xs)) (hl : xs.length ≤ 1000) (hF : ∀ h', Ext h h' → F h') :
    CallsH Tryz.prog 85 #[.slice none 0 0, v] h (fun v' h' => Ext h h' ∧ NewI h.size h' 3 v' xs) := by
  (refine CallsH_of_exec Tryz.func85 rfl bod85 ?_; simp only [Tryz.ntmps85, Tryz.results85, coreS, stK_some, splice, Value.cells, Value.oneCell', Nat.reduceAdd, Nat.reduceSub, Nat.reduceMul, Nat.reduceLeDiff, Int.reduceEq, Nat.reduceEqDiff, M9Fs85])
  obtain ⟨hh, hhe⟩ : ∃ hh, hh = h.push (.cells (Value.slice none 0 0).cells 25) := ⟨_, rfl⟩
  refine WP_rangeI (xss := yis xs) rfl hseq (fun i h' => Ext h h' ∧ i ≤ xs.length ∧ h'[h.size + 1]? = some (.deferred (some [])) ∧ ∃ a cap, h'[h.size]? = some (.cells #[.slice a i cap] 25) ∧ OwnI (h.size + 3) h' 3 a i cap (xs.take i)) (fun _ _ => False) ?_ ?_ ?_ ?_ ?_ ?_ ?_ ?_
  · intro vs hvs
    simp only [yis, List.mem_map] at hvs
    obtain ⟨_, _, rfl⟩ := hvs
    rfl
  · exact fun i h' H => hF _ H.1
  · rintro i h1 h2 ⟨x, hi, h3, a, cap, h4, h5⟩ u
    simp only [push_size] at u
    exact ⟨u.ext x (by omega), hi, u.get h3 (by omega), a, cap, u.get h4 (by omega), h5.upd u (by omega)⟩
  · exact fun j h1 h2 H _ => H
  · intro h' x h1 h2
    simp only [push_size] at h1
    exact ⟨x.of_push, by omega, h1, none, 0, x.get push_new, OwnI.nil _ _ _⟩
  · rintro i h' vs o hvs ⟨x, hi, h1, a, cap, h2, h3⟩ ho
    obtain ⟨hil, rfl⟩ : ∃ hil : i < xs.length, vs = [.int .i64 (xs.getD i 0)] := by
      simp only [yis, List.getElem?_map] at hvs
      cases hq : xs[i]? with
      | none => simp [hq] at hvs
      | some y =>
        obtain ⟨hil, hy⟩ := List.getElem?_eq_some_iff.1 hq
        refine ⟨hil, ?_⟩
        simp [hq] at hvs
        simp [List.getD, hq, hvs]
    simp only [push_size] at ho
    simp only [asgI_normal, coreS, Value.cells, Value.oneCell', Nat.reduceAdd, Nat.reduceSub, Nat.reduceMul, Nat.reduceLeDiff, Int.reduceEq, Nat.reduceEqDiff, scopeK_normal, scopeK_ret, scopeK_exit, callV_yield, binds_cons, binds_nil, M9Fs85]
    refine ⟨ho, fun h4 o2 u4 ho2 => ?_⟩
    have k2 := u4.get h2 (by omega)
    have k1 := u4.get h1 (by omega)
    have k3 := h3.upd u4 (by omega)
    have kx := u4.ext x (by omega)
    clear h1 h2 h3 x u4 ho
    simp only [k2, coreS, Value.cells, Value.oneCell', Nat.reduceAdd, Nat.reduceSub, Nat.reduceMul, Nat.reduceLeDiff, Int.reduceEq, Nat.reduceEqDiff, scopeK_normal, scopeK_ret, scopeK_exit, callV_yield, binds_cons, binds_nil, M9Fs85]
    have hsz := lt_of_get ho2
    have k3' := k3.ext ((Ext.refl h4).push (.cells #[.int .i64 (xs.getD i 0)] 3))
    refine app25 rfl rfl k3' (by simp; omega) (intsV_one push_new) (by omega) fun a' cap' h5 O A => ?_
    have q1 := A.upd k3' (push_old k1) (by omega)
    have q2 := A.upd k3' (push_old k2) (by omega)
    have q3 := A.upd k3' (push_old ho2) (by omega)
    have qx := A.extN k3' (kx.push _) (by omega)
    clear A k1 k2 k3 k3' ho2 hsz kx
    simp only [q2, coreS, Value.cells, Value.oneCell', Nat.reduceAdd, Nat.reduceSub, Nat.reduceMul, Nat.reduceLeDiff, Int.reduceEq, Nat.reduceEqDiff, scopeK_normal, scopeK_ret, scopeK_exit, callV_yield, binds_cons, binds_nil, M9Fs85]
    refine stK_abs q2 (by simp) fun h6 g2 u6 => ?_
    simp only [endI_normal, coreS, Value.cells, Value.oneCell', Nat.reduceAdd, Nat.reduceSub, Nat.reduceMul, Nat.reduceLeDiff, Int.reduceEq, Nat.reduceEqDiff, scopeK_normal, scopeK_ret, scopeK_exit, callV_yield, binds_cons, binds_nil, M9Fs85]
    refine ⟨u6.get q3 (by omega), u6.ext qx (by omega), hil, u6.get q1 (by omega), a', cap', g2, ?_⟩
    have e : xs.take i ++ [xs.getD i 0] = xs.take (i + 1) := by
      rw [List.take_add_one, List.getElem?_eq_getElem hil, List.getD, List.getElem?_eq_getElem hil]; rfl
    rw [← e]
    exact O.upd u6 (by omega)
  · rintro h' ⟨x, hi, h1, a, cap, h2, h3⟩
    have e : (yis xs).length = xs.length := by simp [yis]
    rw [e] at h2 h3
    simp only [push_size, h2, coreS, Value.cells, Value.oneCell', Nat.reduceAdd, Nat.reduceSub, Nat.reduceMul, Nat.reduceLeDiff, Int.reduceEq, Nat.reduceEqDiff, scopeK_normal, scopeK_ret, scopeK_exit, callV_yield, binds_cons, binds_nil, M9Fs85]
    refine fin_mark h1 ?_
    simp only [coreS, Value.cells, Value.oneCell', Nat.reduceAdd, Nat.reduceSub, Nat.reduceMul, Nat.reduceLeDiff, Int.reduceEq, Nat.reduceEqDiff, scopeK_normal, scopeK_ret, scopeK_exit, callV_yield, binds_cons, binds_nil, M9Fs85]
    rw [List.take_of_length_le (Nat.le_refl _)] at h3
    exact ⟨Upd.set.ext x (by omega), a, cap, rfl, (h3.upd Upd.set (by omega)).mono (by omega)⟩
  · exact fun j h' H => H.elim
theorem collect86 (v : Value) (xs : List Int) {F : Eng.Heap → Prop} (h : Eng.Heap) (hseq : SeqOf Tryz.prog v F (yis xs)) (hl : xs.length ≤ 1000) (hF : ∀ h', Ext h h' → F h') :
    CallsH Tryz.prog 71 #[v] h (fun v' h' => Ext h h' ∧ NewI h.size h' 3 v' xs) := by
  (refine CallsH_of_exec Tryz.func71 rfl bod71 ?_; simp only [Tryz.ntmps71, Tryz.results71, coreS, stK_some, splice, Value.cells, Value.oneCell', Nat.reduceAdd, Nat.reduceSub, Nat.reduceMul, Nat.reduceLeDiff, Int.reduceEq, Nat.reduceEqDiff])
  refine CallsH.mono (appendSeq99 v xs h hseq hl hF) ?_
  rintro v' h1 ⟨x, N⟩
  simp only [coreS, Value.cells, Value.oneCell', Nat.reduceAdd, Nat.reduceSub, Nat.reduceMul, Nat.reduceLeDiff, Int.reduceEq, Nat.reduceEqDiff]
  exact ⟨x, N⟩
theorem sorted54 (v : Value) (xs : List Int) {F : Eng.Heap → Prop} (h : Eng.Heap) (hseq : SeqOf Tryz.prog v F (yis xs)) (hl : xs.length ≤ 1000) (hF : ∀ h', Ext h h' → F h') :
    CallsH Tryz.prog 42 #[v] h (fun v' h' => Ext h h' ∧ ∃ ys, ys.Perm xs ∧ srt ys ∧ NewI h.size h' 3 v' ys) := by
  (refine CallsH_of_exec Tryz.func42 rfl bod42 ?_; simp only [Tryz.ntmps42, Tryz.results42, coreS, stK_some, splice, Value.cells, Value.oneCell', Nat.reduceAdd, Nat.reduceSub, Nat.reduceMul, Nat.reduceLeDiff, Int.reduceEq, Nat.reduceEqDiff])
  refine CallsH.mono (collect86 v xs h hseq hl hF) ?_
  rintro v' h1 ⟨x1, a, cap, rfl, O⟩
  simp only [coreS, Value.cells, Value.oneCell', Nat.reduceAdd, Nat.reduceSub, Nat.reduceMul, Nat.reduceLeDiff, Int.reduceEq, Nat.reduceEqDiff]
  refine CallsH.mono (sort73_own h.size xs.length cap a xs h1 O (by omega)) ?_
  rintro v h2 ⟨rfl, ⟨q1, q2⟩, ys, hp, hs, O2⟩
  simp only [coreS, Value.cells, Value.oneCell', Nat.reduceAdd, Nat.reduceSub, Nat.reduceMul, Nat.reduceLeDiff, Int.reduceEq, Nat.reduceEqDiff]
  refine ⟨⟨Nat.le_trans x1.size q1, fun b hb => (q2 b (Nat.lt_of_lt_of_le hb x1.size) hb).trans (x1.old b hb)⟩, ys, hp, hs, a, cap, by rw [hp.length_eq], ?_⟩
  have := O2
  rwa [← hp.length_eq] at this
end Go.Proofs.YtmgkeeefbfefgaaGreat
end
section
namespace Go.Proofs.YtmgkeeefbfefgaaGreat
open Go Go.Proofs Go.Eng Go.Run Tab
set_option maxRecDepth 100000
set_option linter.unusedSimpArgs false
set_option linter.unusedVariables false
set_option linter.defProp false
set_option maxHeartbeats 1000000
set_option linter.defProp false
def M10Fs20 := (And.intro (And.intro (And.intro @agg22 (And.intro @agg24 @agg3)) (And.intro @by3 (And.intro @fo24_2 @inf22))) (And.intro (And.intro @inf24 (And.intro @inf3 @sz22)) (And.intro (And.intro @sz24 @sz3) (And.intro @Tryz.underlying22 @Tryz.underlying25))))
def natL (xs : List Int) : List Nat := xs.map Int.toNat
theorem natL_length (xs : List Int) : (natL xs).length = xs.length := by simp [natL]
theorem natL_get (xs : List Int) (i : Nat) : (natL xs).getD i 0 = (xs.getD i 0).toNat := by
  simp only [natL, List.getD, List.getElem?_map]
  cases xs[i]? <;> rfl
def zsN (l : List Nat) : List Int := l.map fun j : Nat => (j : Int)
theorem zsN_natL {xs : List Int} (h : ∀ x ∈ xs, 0 ≤ x) : zsN (natL xs) = xs := by
  unfold zsN natL
  rw [List.map_map]
  conv => rhs; rw [← List.map_id xs]
  refine List.map_congr_left fun x hx => ?_
  have := h x hx
  show ((x.toNat : Nat) : Int) = x
  omega
theorem natL_zsN (l : List Nat) : natL (zsN l) = l := by
  unfold zsN natL
  rw [List.map_map]
  conv => rhs; rw [← List.map_id l]
  exact List.map_congr_left fun x hx => by simp
def rightD (ws : List Wn) (days : List Int) : Prop := MB.rightL (shN ws) (moN ws) (natL days)
open Classical in
/-- The error of CheckDays. -/
noncomputable def chkD (S M : Int) (ws : List Wn) (days : List Int) : Int :=
  if chk S M ws ≠ 0 then chk S M ws else if days.length ≠ ws.length then 15 else if inB 0 13 days = false then 3 else if rightD ws days then 0 else 18
noncomputable def difD (S M : Int) (ws : List Wn) (days : List Int) : Int := if chkD S M ws days = 0 then (MB.dif (natL days) : Nat) else 0
theorem chkD_ok {S M : Int} {ws : List Wn} {days : List Int} (H : chkD S M ws days = 0) : chk S M ws = 0 ∧ days.length = ws.length ∧ inB 0 13 days = true ∧ rightD ws days := by
  unfold chkD at H
  split at H
  · rename_i h; exact absurd H h
  rename_i h1
  split at H
  · omega
  rename_i h2
  split at H
  · omega
  rename_i h3
  split at H
  · rename_i h4; exact ⟨Classical.not_not.1 h1, Classical.not_not.1 h2, by simpa using h3, h4⟩
  · omega
def onL (c : Nat → Nat) (i : Nat) : List (Nat × Nat) := (List.range i).map fun k => (k, c k)
theorem onL_succ (c : Nat → Nat) (i : Nat) : onL c (i + 1) = onL c i ++ [(i, c i)] := by simp [onL, List.range_succ]
theorem held_iff {sh mo : Nat → Nat} {L : List (Nat × Nat)} {k : Sk} : held sh mo L k = true ↔ ∃ x ∈ L, k = (0, sh x.1, x.2) ∨ k = (1, mo x.1, x.2) := by
  simp [held]
theorem fits_iff {sh mo : Nat → Nat} {L : List (Nat × Nat)} {i d : Nat} : fits sh mo L i d = true ↔ ∀ x ∈ L, x.2 = d → sh x.1 ≠ sh i ∧ mo x.1 ≠ mo i := by
  unfold fits
  rw [Bool.and_eq_true, Bool.not_eq_true', Bool.not_eq_true', ← Bool.not_eq_true, ← Bool.not_eq_true, held_iff, held_iff]
  constructor
  · rintro ⟨h1, h2⟩ x hx rfl
    exact ⟨fun e => h1 ⟨x, hx, .inl (by rw [e])⟩, fun e => h2 ⟨x, hx, .inr (by rw [e])⟩⟩
  · intro H
    refine ⟨?_, ?_⟩
    · rintro ⟨x, hx, h | h⟩
      · simp only [Prod.mk.injEq] at h; exact (H x hx h.2.2.symm).1 h.2.1.symm
      · simp at h
    · rintro ⟨x, hx, h | h⟩
      · simp at h
      · simp only [Prod.mk.injEq] at h; exact (H x hx h.2.2.symm).2 h.2.1.symm
theorem fits_on {sh mo c : Nat → Nat} {i d : Nat} : fits sh mo (onL c i) i d = true ↔ ∀ k, k < i → c k = d → sh k ≠ sh i ∧ mo k ≠ mo i := by
  rw [fits_iff]
  constructor
  · intro H k hk e
    exact H (k, c k) (List.mem_map.2 ⟨k, List.mem_range.2 hk, rfl⟩) e
  · intro H x hx e
    simp only [onL, List.mem_map, List.mem_range] at hx
    obtain ⟨k, hk, rfl⟩ := hx
    exact H k hk e
theorem right_step {sh mo c : Nat → Nat} {i : Nat} : MB.right sh mo c (i + 1) ↔ MB.right sh mo c i ∧ ∀ k, k < i → c k = c i → sh k ≠ sh i ∧ mo k ≠ mo i := by
  constructor
  · intro H
    exact ⟨fun a b ha hb => H a b (by omega) (by omega), fun k hk e => H k i (by omega) (by omega) (by omega) e⟩
  · rintro ⟨H1, H2⟩ a b ha hb hne e
    by_cases h1 : a < i <;> by_cases h2 : b < i
    · exact H1 a b h1 h2 hne e
    · obtain rfl : b = i := by omega
      exact H2 a h1 e
    · obtain rfl : a = i := by omega
      have := H2 b h2 e.symm
      exact ⟨fun e => this.1 e.symm, fun e => this.2 e.symm⟩
    · omega
theorem compact_len {ys : List Int} {days : List Int} (hp : ys.Perm days) (hs : srt ys) (h0 : ∀ x ∈ days, 0 ≤ x) : (Lib.compact ys).length = MB.dif (natL days) := by
  refine MB.compact_dif (days := natL days) ?_ hs
  have := zsN_natL h0
  unfold zsN at this
  rw [this]; exact hp
theorem checkDays20 (S M : Int) (a : Option Addr) (n c : Nat) (ws : List Wn) (b : Option Addr) (m k : Nat) (days : List Int) (h : Eng.Heap) (hr : Row h a (wsV ws)) (hn : n = ws.length) (hl : n ≤ 1000000) (hd : IntsV h b m days) (hm : m ≤ 1000000) :
    CallsH Tryz.prog 20 #[.agg #[.int .i64 S, .int .i64 M, .slice a n c], .slice b m k] h (fun v h' => v = .tuple #[.int .i64 (difD S M ws days), .int .i64 (chkD S M ws days)] ∧ Ext h h') := by
  have hml := hd.len
  (refine CallsH_of_exec Tryz.func20 rfl bod20 ?_; simp only [Tryz.ntmps20, Tryz.results20, coreS, stK_some, splice, Value.cells, Value.oneCell', Nat.reduceAdd, Nat.reduceSub, Nat.reduceMul, Nat.reduceLeDiff, Int.reduceEq, Nat.reduceEqDiff, M10Fs20])
  have x0 : Ext h (h.push (.cells #[.int .i64 S, .int .i64 M, .slice a n c] 24)) := (Ext.refl h).push _
  have fin : ∀ {e : Int} {Q : Prop}, chkD S M ws days = e → e ≠ 0 → Q → Value.tuple #[.int .i64 0, .int .i64 e] = Value.tuple #[.int .i64 (difD S M ws days), .int .i64 (chkD S M ws days)] ∧ Q := fun h1 h2 q => ⟨by unfold difD; rw [h1, if_neg h2], q⟩
  refine CallsH.mono (open49 S M a n c ws _ (hr.push _) hn hl) ?_
  rintro v h1 ⟨x1, ⟨s, mm, rfl, rfl, V, g, mb, rfl, hg, hmb, hgs, hbs⟩ | ⟨hc, rfl⟩⟩
  rotate_left
  · simp only [hc, decide_false, Bool.not_false, coreS, Value.cells, Value.oneCell', Nat.reduceAdd, Nat.reduceSub, Nat.reduceMul, Nat.reduceLeDiff, Int.reduceEq, Nat.reduceEqDiff, M10Fs20]
    exact fin (by unfold chkD; rw [if_pos hc]) hc (x0.trans x1)
  have hb1 := x1.get (push_new (h := h))
  have y1 := x0.trans x1
  have hc0 := V.chk
  simp only [hb1, Bool.not_true, decide_true, coreS, Value.cells, Value.oneCell', Nat.reduceAdd, Nat.reduceSub, Nat.reduceMul, Nat.reduceLeDiff, Int.reduceEq, Nat.reduceEqDiff, M10Fs20]
  refine ⟨fun heq => ?_, fun hne => fin (by unfold chkD; rw [if_neg (by simpa using hc0), if_pos (by omega)]) (by omega) y1⟩
  refine CallsH.mono (within52 0 13 b m k days h1 (hd.ext y1) hm) ?_
  rintro v h2 ⟨rfl, x2⟩
  have y2 := y1.trans x2
  cases hin : inB 0 13 days with
  | false =>
    simp only [Bool.not_false, coreS, Value.cells, Value.oneCell', Nat.reduceAdd, Nat.reduceSub, Nat.reduceMul, Nat.reduceLeDiff, Int.reduceEq, Nat.reduceEqDiff, M10Fs20]
    exact fin (by unfold chkD; rw [if_neg (by simpa using hc0), if_neg (by omega), if_pos hin]) (by omega) y2
  | true =>
  have hg2 := x2.get hg
  have hmb2 := x2.get hmb
  have hall := inB_iff.1 hin
  obtain ⟨C, hC⟩ : ∃ C : Nat → Nat, C = fun i => (natL days).getD i 0 := ⟨_, rfl⟩
  have hCd : ∀ i, i < m → days.getD i 0 = (C i : Nat) := fun i hi => by
    have e1 : C i = (natL days).getD i 0 := by rw [hC]
    rw [e1, natL_get]
    have hm : days.getD i 0 ∈ days := by
      have : i < days.length := by omega
      simp [List.getD, List.getElem?_eq_getElem this]
    have := hall _ hm
    omega
  have hRD : ∀ j, j ≤ m → ¬ MB.right (shN ws) (moN ws) C j → ¬ rightD ws days := fun j hj hn hr => by
    unfold rightD MB.rightL at hr
    rw [natL_length, ← hC] at hr
    exact hn fun a b ha hb => hr a b (by omega) (by omega)
  have hgs1 := lt_of_get hg
  simp only [Bool.not_true, coreS, Value.cells, Value.oneCell', Nat.reduceAdd, Nat.reduceSub, Nat.reduceMul, Nat.reduceLeDiff, Int.reduceEq, Nat.reduceEqDiff, M10Fs20]
  have hgm : g ≠ mb := fun e => by unfold DeskB at hg; rw [e, hmb] at hg; cases hg
  rw [push_size] at hbs hgs
  have hM0 : MapV kvS h2 mb [] 0 := ⟨by simpa using hmb2, by simp, by simp⟩
  refine WP_loopI [4, 5, 8, 9, 33, 34, 35, 36, 37, 38, 39, 40, 41, 42, 43] (fun e h' => Chg h2 h' mb ∧ DeskB h' g mb s mm a n c ∧ ∃ i : Nat, i ≤ m ∧ e 33 = .int .i64 i ∧ (∃ es c0, MapV kvS h' mb es c0 ∧ Hold (shN ws) (moN ws) es (onL C i)) ∧ MB.right (shN ws) (moN ws) C i) (fun e _ => match e 33 with | .int _ q => m - q.toNat | _ => 0) ⟨Chg.refl _ _, hg2, 0, by omega, rfl, ⟨_, _, hM0, Hold.nil⟩, fun a b ha => by omega⟩ ?_
  rintro e h' ⟨ch, hg', i, hi, he, ⟨es, c0, Mp, H⟩, hR⟩
  have hd' := (hd.ext y2).chg hmb2 ch
  have hr' := (hr.ext y2).chg hmb2 ch
  by_cases hil : i < days.length
  · have hlt : (i : Int) < (m : Int) := by omega
    have hcell := hd'.cell hil
    rw [hCd i (by omega)] at hcell
    simp only [he, hlt, hcell, decide_true, coreS, Value.cells, Value.oneCell', Nat.reduceAdd, Nat.reduceSub, Nat.reduceMul, Nat.reduceLeDiff, Int.reduceEq, Nat.reduceEqDiff, M10Fs20]
    refine ⟨by omega, hd.isSome (by omega), ?_⟩
    refine CallsH.mono (hang53 g mb s mm a n c ws i (C i) es c0 _ h' hg' hr' hn V (by omega) Mp H) ?_
    rintro v h3 ⟨rfl, ch3, es', c', Mp3, H3⟩
    cases hf : fits (shN ws) (moN ws) (onL C i) i (C i) with
    | false =>
      simp only [Bool.not_false, coreS, Value.cells, Value.oneCell', Nat.reduceAdd, Nat.reduceSub, Nat.reduceMul, Nat.reduceLeDiff, Int.reduceEq, Nat.reduceEqDiff, M10Fs20]
      refine fin ?_ (by omega) (Chg.fresh y2 (ch.trans ch3) (by omega))
      unfold chkD
      rw [if_neg (by simpa using hc0), if_neg (by omega), if_neg (by simp [hin]), if_neg]
      refine hRD (i + 1) (by omega) fun hr1 => ?_
      have := fits_on.2 (right_step.1 hr1).2
      rw [hf] at this; cases this
    | true =>
      rw [hf, if_pos rfl, ← onL_succ] at H3
      simp only [Bool.not_true, coreS, Value.cells, Value.oneCell', Nat.reduceAdd, Nat.reduceSub, Nat.reduceMul, Nat.reduceLeDiff, Int.reduceEq, Nat.reduceEqDiff, M10Fs20]
      refine ⟨by rw [inK_i64]; omega, roundK_mk (by kernel_rfl) ⟨ch.trans ch3, ch3.get hg' hgm, i + 1, by omega, rfl, ⟨_, _, Mp3, H3⟩, right_step.2 ⟨hR, fits_on.1 hf⟩⟩ ?_⟩
      show m - ((i : Int) + 1).toNat < m - (i : Int).toNat
      omega
  · obtain rfl : i = m := by omega
    have hlt : ¬ ((i : Int) < (i : Int)) := by omega
    have hD : chkD (s : Int) (mm : Int) ws days = 0 := by
      unfold chkD
      rw [if_neg (by simpa using hc0), if_neg (by omega), if_neg (by simp [hin]), if_pos]
      unfold rightD MB.rightL
      rw [natL_length, ← hC, ← hml]
      exact hR
    have z3 : Ext h h' := Chg.fresh y2 ch (by omega)
    have V3 := V.n
    simp only [he, hlt, decide_false, coreS, Value.cells, Value.oneCell', Nat.reduceAdd, Nat.reduceSub, Nat.reduceMul, Nat.reduceLeDiff, Int.reduceEq, Nat.reduceEqDiff, M10Fs20]
    refine CallsH.mono (values55 b i k h') ?_
    rintro v h3 ⟨rfl, rfl⟩
    have hseq := values_seq (bx := h'.size) (n := i) (c := k) (a := b) (xs := days) hml hm
    simp only [coreS, Value.cells, Value.oneCell', Nat.reduceAdd, Nat.reduceSub, Nat.reduceMul, Nat.reduceLeDiff, Int.reduceEq, Nat.reduceEqDiff, M10Fs20]
    refine CallsH.mono (sorted54 _ days _ hseq (by omega) fun h4 x4 => ⟨x4.get push_new, (hd'.ext ((Ext.refl h').push _)).ext x4⟩) ?_
    rintro v h4 ⟨x4, ys, hp, hs, a4, cap, rfl, O⟩
    have hcl := compact_len hp hs fun x hx => (hall x hx).1
    have z4 : Ext h h4 := z3.trans (x4.of_push)
    have hD2 : difD (s : Int) (mm : Int) ws days = ((Lib.compact ys).length : Nat) := by unfold difD; rw [if_pos hD, hcl]
    simp only [coreS, Value.cells, Value.oneCell', Nat.reduceAdd, Nat.reduceSub, Nat.reduceMul, Nat.reduceLeDiff, Int.reduceEq, Nat.reduceEqDiff, M10Fs20]
    by_cases h0 : 0 < ys.length
    · obtain ⟨g4, tl, rfl, hg4, hb4, hc4, hc5, _⟩ := O.block h0
      refine CallsH.mono (compact56 g4 cap _ ys tl h4 hb4 rfl hc5 (by rw [hp.length_eq]; omega)) ?_
      rintro v h5 ⟨rfl, u5⟩
      rw [push_size] at hg4
      have := z3.size
      simp only [hD, hD2, coreS, Value.cells, Value.oneCell', Nat.reduceAdd, Nat.reduceSub, Nat.reduceMul, Nat.reduceLeDiff, Int.reduceEq, Nat.reduceEqDiff, M10Fs20]
      exact u5.ext z4 (by omega)
    · obtain rfl : ys = [] := List.length_eq_zero_iff.1 (by omega)
      refine CallsH.mono (compact0 a4 cap h4) ?_
      rintro v h5 ⟨rfl, rfl⟩
      have e0 : (Lib.compact ([] : List Int)).length = 0 := by rfl
      simp only [hD, hD2, e0, coreS, Value.cells, Value.oneCell', Nat.reduceAdd, Nat.reduceSub, Nat.reduceMul, Nat.reduceLeDiff, Int.reduceEq, Nat.reduceEqDiff, M10Fs20]
      exact z4
end Go.Proofs.YtmgkeeefbfefgaaGreat
end
section
namespace Go.Proofs.YtmgkeeefbfefgaaGreat
open Go Go.Proofs Go.Eng Go.Run Tab
set_option maxRecDepth 100000
set_option linter.unusedSimpArgs false
set_option linter.unusedVariables false
set_option linter.defProp false
set_option maxHeartbeats 1000000
set_option linter.defProp false
def M11Fs31 := (And.intro (And.intro @agg3 @by3) (And.intro @inf3 (And.intro @sz3 @Tryz.underlying25)))
def M11Fs68 := (And.intro (And.intro (And.intro @agg22 (And.intro @agg24 @agg3)) (And.intro @by3 (And.intro @fo24_2 @inf22))) (And.intro (And.intro @inf24 (And.intro @inf3 @sz22)) (And.intro (And.intro @sz24 @sz3) (And.intro @Tryz.underlying22 @Tryz.underlying25))))
def M11Fs69 := (And.intro (And.intro (And.intro @agg22 (And.intro @agg3 @by72)) (And.intro @fo24_2 (And.intro @fo72_0 @fo72_1))) (And.intro (And.intro @inf22 (And.intro @inf3 @inf72)) (And.intro (And.intro @sz22 @sz3) (And.intro @sz72 @Tryz.underlying22))))
def M11Fs84 := (And.intro (And.intro (And.intro @agg24 @agg3) (And.intro @by3 @inf24)) (And.intro (And.intro @inf3 @sz24) (And.intro @sz3 @Tryz.underlying25)))
theorem clash79 (S M : Nat) (a : Option Addr) (n c : Nat) (ws : List Wn) (i k : Nat) (h : Eng.Heap) (hr : Row h a (wsV ws)) (hn : n = ws.length) (V : Vb S M ws) (hi : i < ws.length) (hk : k < ws.length) :
    CallsH Tryz.prog 69 #[.agg #[.int .i64 S, .int .i64 M, .slice a n c], .int .i64 i, .int .i64 k] h (fun v h' => v = .bool (MB.clash (shN ws) (moN ws) i k) ∧ Ext h h') := by
  (refine CallsH_of_exec Tryz.func69 rfl bod69 ?_; simp only [Tryz.ntmps69, Tryz.results69, coreS, stK_some, splice, Value.cells, Value.oneCell', Nat.reduceAdd, Nat.reduceSub, Nat.reduceMul, Nat.reduceLeDiff, Int.reduceEq, Nat.reduceEqDiff, M11Fs69])
  have x0 : Ext h (h.push (.cells #[.int .i64 S, .int .i64 M, .slice a n c] 24)) := (Ext.refl h).push _
  have hr0 := hr.push (.cells #[.int .i64 S, .int .i64 M, .slice a n c] 24)
  have fa := faR hr hi
  have a0 := cellW0 hr0 hi
  have a1 := cellW1 hr0 hi
  have b0 := cellW0 hr0 hk
  have b1 := cellW1 hr0 hk
  rw [(V.s hi).1] at a0
  rw [(V.m hi).1] at a1
  rw [(V.s hk).1] at b0
  rw [(V.m hk).1] at b1
  have hsm := rowW_some hr hi
  have hcl : MB.clash (shN ws) (moN ws) i k = (decide (((shN ws i : Nat) : Int) = (shN ws k : Nat)) || decide (((moN ws i : Nat) : Int) = (moN ws k : Nat))) := by
    unfold MB.clash
    congr 1
    · rw [Bool.eq_iff_iff]; simp; omega
    · rw [Bool.eq_iff_iff]; simp; omega
  rw [hcl]
  refine WP_draw (by kernel_rfl) sta_eq [(0, 0), (1, 0), (2, 0), (3, 0), (4, 0), (5, 0), (6, 0), (7, 0), (8, 0), (9, 0), (10, 0), (11, 0), (12, 0), (13, 0), (14, 0), (15, 0), (16, 0), (17, 0), (18, 0), (19, 0), (20, 0), (21, 0), (22, 0), (23, 0), (24, 0), (25, 0), (26, 0), (27, 0), (28, 0)] (by kernel_rfl) rfl (by kernel_rfl) ?_
  by_cases h1 : ((shN ws i : Nat) : Int) = (shN ws k : Nat)
  · simp only [fa, a0, a1, b0, b1, h1, decide_true, hvK_eq, Int.toNat_natCast, coreS, Value.cells, Value.oneCell', Nat.reduceAdd, Nat.reduceSub, Nat.reduceMul, Nat.reduceLeDiff, Int.reduceEq, Nat.reduceEqDiff, drawS, M11Fs69]
    refine ⟨⟨by omega, by omega⟩, hsm, ⟨by omega, by omega⟩, hsm, ?_⟩
    exact ⟨by simp, x0⟩
  · simp only [fa, a0, a1, b0, b1, h1, decide_false, hvK_eq, Int.toNat_natCast, coreS, Value.cells, Value.oneCell', Nat.reduceAdd, Nat.reduceSub, Nat.reduceMul, Nat.reduceLeDiff, Int.reduceEq, Nat.reduceEqDiff, drawS, M11Fs69]
    refine ⟨⟨by omega, by omega⟩, hsm, ⟨by omega, by omega⟩, hsm, ⟨by omega, by omega⟩, hsm, ⟨by omega, by omega⟩, hsm, ?_⟩
    exact ⟨by simp, x0⟩
theorem cQ_same {P : Program} {f : FuncId} {args : Array Value} {h : Eng.Heap} {K : Value → Eng.Heap → Prop} (r : Value) (c : CallsH P f args h (fun v' h'' => v' = r ∧ h'' = h)) (H : K r h) : cQ P EqH f args h K := by
  unfold cQ
  refine ⟨r, fun h' e => ?_, H⟩
  have e : h' = h := e
  subst e
  exact c
theorem isRight57 (S M : Nat) (a : Option Addr) (n c : Nat) (ws : List Wn) (b : Option Addr) (m k : Nat) (days : List Int) (h : Eng.Heap) (hr : Row h a (wsV ws)) (hn : n = ws.length) (V : Vb S M ws) (hd : IntsV h b m days) (hmn : m = n) (h0 : ∀ x ∈ days, 0 ≤ x) :
    CallsH Tryz.prog 84 #[.agg #[.int .i64 S, .int .i64 M, .slice a n c], .slice b m k] h (fun v h' => (∃ r : Bool, v = .bool r ∧ (r = true ↔ rightD ws days)) ∧ Ext h h') := by
  have hml := hd.len
  have V3 := V.n
  obtain ⟨C, hC⟩ : ∃ C : Nat → Nat, C = fun i => (natL days).getD i 0 := ⟨_, rfl⟩
  have hCd : ∀ i, i < m → days.getD i 0 = (C i : Nat) := fun i hi => by
    have e1 : C i = (natL days).getD i 0 := by rw [hC]
    rw [e1, natL_get]
    have hm : days.getD i 0 ∈ days := by
      have : i < days.length := by omega
      simp [List.getD, List.getElem?_eq_getElem this]
    have := h0 _ hm
    omega
  have hRD : rightD ws days ↔ MB.right (shN ws) (moN ws) C m := by
    unfold rightD MB.rightL
    rw [natL_length, ← hC, hml]
  (refine CallsH_of_exec Tryz.func84 rfl bod84 ?_; simp only [Tryz.ntmps84, Tryz.results84, coreS, stK_some, splice, Value.cells, Value.oneCell', Nat.reduceAdd, Nat.reduceSub, Nat.reduceMul, Nat.reduceLeDiff, Int.reduceEq, Nat.reduceEqDiff, M11Fs84])
  have x0 : Ext h (h.push (.cells #[.int .i64 S, .int .i64 M, .slice a n c] 24)) := (Ext.refl h).push _
  have hb0 := push_new (h := h) (o := .cells #[.int .i64 S, .int .i64 M, .slice a n c] 24)
  generalize h.push (.cells #[.int .i64 S, .int .i64 M, .slice a n c] 24) = hh at x0 hb0 ⊢
  refine WP_loopI [4, 5, 6, 7, 8, 9, 10, 11, 12, 13, 14, 15, 16, 17, 18, 19, 20, 21, 22, 23, 24, 25, 26, 27, 28, 29, 30, 31, 32] (fun e h' => Ext hh h' ∧ ∃ i : Nat, i ≤ m ∧ e 5 = .int .i64 i ∧ MB.right (shN ws) (moN ws) C i) (fun e _ => match e 5 with | .int _ q => m - q.toNat | _ => 0) ⟨Ext.refl _, 0, by omega, rfl, fun a b ha => by omega⟩ ?_
  rintro e h1 ⟨x1, i, hi, he, hR⟩
  by_cases hil : i < days.length
  · have hlt : (i : Int) < (m : Int) := by omega
    simp only [he, hlt, decide_true, coreS, Value.cells, Value.oneCell', Nat.reduceAdd, Nat.reduceSub, Nat.reduceMul, Nat.reduceLeDiff, Int.reduceEq, Nat.reduceEqDiff, M11Fs84]
    refine WP_loopI [4, 6, 13, 14, 15, 16, 17, 18, 19, 20, 21, 22, 23, 24, 25, 26, 27, 28, 29, 30, 31, 32] (fun e h' => Ext hh h' ∧ ∃ q : Nat, q ≤ i ∧ e 6 = .int .i64 q ∧ ∀ t, t < q → C t = C i → shN ws t ≠ shN ws i ∧ moN ws t ≠ moN ws i) (fun e _ => match e 6 with | .int _ q => i - q.toNat | _ => 0) ⟨x1, 0, by omega, rfl, fun t ht => by omega⟩ ?_
    rintro e2 h2 ⟨x2, q, hq, he2, hno⟩
    have hb2 := x2.get hb0
    have y2 := x0.trans x2
    by_cases hqi : q < i
    · have hlt2 : (q : Int) < (i : Int) := by omega
      have hd2 := hd.ext y2
      have c1 := hd2.cell hil
      have c2 := hd2.cell (j := q) (by omega)
      rw [hCd i (by omega)] at c1
      rw [hCd q (by omega)] at c2
      simp only [he2, hlt2, decide_true, coreS, Value.cells, Value.oneCell', Nat.reduceAdd, Nat.reduceSub, Nat.reduceMul, Nat.reduceLeDiff, Int.reduceEq, Nat.reduceEqDiff, M11Fs84]
      refine WP_draw (by kernel_rfl) sta_ext [(0, 0), (1, 0), (2, 0), (3, 0), (4, 0), (5, 0), (6, 0), (7, 0), (8, 0), (9, 0), (10, 0), (11, 0), (12, 0), (13, 0), (14, 0)] (by kernel_rfl) rfl (by kernel_rfl) ?_
      have hds : b.isSome = true := hd.isSome (by omega)
      have go_on : (C q = C i → shN ws q ≠ shN ws i ∧ moN ws q ≠ moN ws i) → ∀ t, t < q + 1 → C t = C i → shN ws t ≠ shN ws i ∧ moN ws t ≠ moN ws i := fun hh t ht et => by
        by_cases h : t = q
        · subst h; exact hh et
        · exact hno t (by omega) et
      by_cases hcc : ((C i : Nat) : Int) = (C q : Nat)
      · simp only [he, he2, hb2, c1, c2, hcc, decide_true, Int.toNat_natCast, coreS, Value.cells, Value.oneCell', Nat.reduceAdd, Nat.reduceSub, Nat.reduceMul, Nat.reduceLeDiff, Int.reduceEq, Nat.reduceEqDiff, drawS, M11Fs84]
        refine ⟨⟨by omega, by omega⟩, hds, ⟨by omega, by omega⟩, hds, ?_⟩
        refine cQ_ext _ (fun h3 x3 => clash79 S M a n c ws i q h3 (hr.ext (y2.trans x3)) hn V (by omega) (by omega)) ?_
        cases hcl : MB.clash (shN ws) (moN ws) i q with
        | true =>
          simp only [coreS, Value.cells, Value.oneCell', Nat.reduceAdd, Nat.reduceSub, Nat.reduceMul, Nat.reduceLeDiff, Int.reduceEq, Nat.reduceEqDiff, drawS, M11Fs84]
          refine hvK_mk fun h3 x3 => ?_
          simp only [coreS, Value.cells, Value.oneCell', Nat.reduceAdd, Nat.reduceSub, Nat.reduceMul, Nat.reduceLeDiff, Int.reduceEq, Nat.reduceEqDiff, M11Fs84]
          refine ⟨⟨false, rfl, Iff.intro (fun hf => absurd hf (by simp)) (fun hr1 => ?_)⟩, y2.trans x3⟩
          have h5 := (hRD.1 hr1) i q (by omega) (by omega) (by omega) (by omega)
          have := MB.clash_no.2 h5
          rw [hcl] at this; cases this
        | false =>
          simp only [coreS, Value.cells, Value.oneCell', Nat.reduceAdd, Nat.reduceSub, Nat.reduceMul, Nat.reduceLeDiff, Int.reduceEq, Nat.reduceEqDiff, drawS, M11Fs84]
          refine hvK_mk fun h3 x3 => ?_
          simp only [he2, coreS, Value.cells, Value.oneCell', Nat.reduceAdd, Nat.reduceSub, Nat.reduceMul, Nat.reduceLeDiff, Int.reduceEq, Nat.reduceEqDiff, M11Fs84]
          have h5 := MB.clash_no.1 hcl
          refine ⟨by rw [inK_i64]; omega, roundK_mk (by kernel_rfl) ⟨x2.trans x3, q + 1, by omega, rfl, go_on fun _ => ⟨fun e => h5.1 e.symm, fun e => h5.2 e.symm⟩⟩ ?_⟩
          show i - ((q : Int) + 1).toNat < i - (q : Int).toNat
          omega
      · simp only [he, he2, hb2, c1, c2, hcc, decide_false, Int.toNat_natCast, coreS, Value.cells, Value.oneCell', Nat.reduceAdd, Nat.reduceSub, Nat.reduceMul, Nat.reduceLeDiff, Int.reduceEq, Nat.reduceEqDiff, drawS, M11Fs84]
        refine ⟨⟨by omega, by omega⟩, hds, ⟨by omega, by omega⟩, hds, ?_⟩
        refine hvK_mk fun h3 x3 => ?_
        simp only [he2, coreS, Value.cells, Value.oneCell', Nat.reduceAdd, Nat.reduceSub, Nat.reduceMul, Nat.reduceLeDiff, Int.reduceEq, Nat.reduceEqDiff, M11Fs84]
        refine ⟨by rw [inK_i64]; omega, roundK_mk (by kernel_rfl) ⟨x2.trans x3, q + 1, by omega, rfl, go_on fun h => absurd (by rw [h]) hcc⟩ ?_⟩
        show i - ((q : Int) + 1).toNat < i - (q : Int).toNat
        omega
    · obtain rfl : q = i := by omega
      have hlt2 : ¬ ((q : Int) < (q : Int)) := by omega
      simp only [he, he2, hlt2, decide_false, coreS, Value.cells, Value.oneCell', Nat.reduceAdd, Nat.reduceSub, Nat.reduceMul, Nat.reduceLeDiff, Int.reduceEq, Nat.reduceEqDiff, M11Fs84]
      refine ⟨by rw [inK_i64]; omega, roundK_mk (by kernel_rfl) ⟨x2, q + 1, by omega, rfl, right_step.2 ⟨hR, hno⟩⟩ ?_⟩
      show m - ((q : Int) + 1).toNat < m - (q : Int).toNat
      omega
  · obtain rfl : i = m := by omega
    have hlt : ¬ ((i : Int) < (i : Int)) := by omega
    simp only [he, hlt, decide_false, coreS, Value.cells, Value.oneCell', Nat.reduceAdd, Nat.reduceSub, Nat.reduceMul, Nat.reduceLeDiff, Int.reduceEq, Nat.reduceEqDiff, M11Fs84]
    exact ⟨⟨true, rfl, ⟨fun _ => hRD.2 hR, fun _ => rfl⟩⟩, x0.trans x1⟩
theorem take_get {xs : List Int} {i : Nat} (h : ∀ x ∈ xs, 0 ≤ x) (hi : i < xs.length) : (xs.take i).contains (xs.getD i 0) = ((natL xs).take i).contains ((natL xs).getD i 0) := by
  have h1 := zsN_natL h
  conv => lhs; rw [← h1]
  rw [Bool.eq_iff_iff, List.contains_iff_mem, List.contains_iff_mem]
  unfold zsN
  rw [← List.map_take, List.mem_map]
  have e : ((natL xs).map fun j : Nat => (j : Int)).getD i 0 = ((natL xs).getD i 0 : Nat) := by
    simp only [List.getD, List.getElem?_map]
    cases (natL xs)[i]? <;> rfl
  rw [e]
  constructor
  · rintro ⟨a, ha, he⟩
    rw [← show a = (natL xs).getD i 0 by omega]; exact ha
  · intro ha
    exact ⟨_, ha, rfl⟩
theorem different58 (b : Option Addr) (m k : Nat) (days : List Int) (h : Eng.Heap) (hd : IntsV h b m days) (hc : m ≤ k) (hl : m ≤ 1000000) (h0 : ∀ x ∈ days, 0 ≤ x) :
    CallsH Tryz.prog 31 #[.slice b m k] h (fun v h' => v = .int .i64 (MB.dif (natL days) : Nat) ∧ h' = h) := by
  have hml := hd.len
  (refine CallsH_of_exec Tryz.func31 rfl bod31 ?_; simp only [Tryz.ntmps31, Tryz.results31, coreS, stK_some, splice, Value.cells, Value.oneCell', Nat.reduceAdd, Nat.reduceSub, Nat.reduceMul, Nat.reduceLeDiff, Int.reduceEq, Nat.reduceEqDiff, M11Fs31])
  refine WP_loopI [3, 4, 5, 6, 7, 8, 9, 10, 11, 12, 13, 14, 15, 16, 17, 18, 19, 20, 21] (fun e h' => h' = h ∧ ∃ i : Nat, i ≤ m ∧ e 4 = .int .i64 i ∧ e 3 = .int .i64 (MB.cnt (fun i => !((natL days).take i).contains ((natL days).getD i 0)) i : Nat)) (fun e _ => match e 4 with | .int _ q => m - q.toNat | _ => 0) ⟨rfl, 0, by omega, rfl, rfl⟩ ?_
  rintro e h1 ⟨rfl, i, hi, he, he3⟩
  by_cases hil : i < days.length
  · have hlt : (i : Int) < (m : Int) := by omega
    have c1 := hd.cell hil
    have hds : b.isSome = true := hd.isSome (by omega)
    simp only [he, he3, hlt, decide_true, coreS, Value.cells, Value.oneCell', Nat.reduceAdd, Nat.reduceSub, Nat.reduceMul, Nat.reduceLeDiff, Int.reduceEq, Nat.reduceEqDiff, M11Fs31]
    refine WP_draw (by kernel_rfl) sta_eq [(0, 0), (1, 0), (2, 0), (3, 0), (4, 0), (5, 0), (6, 0), (7, 0), (8, 0)] (by kernel_rfl) rfl (by kernel_rfl) ?_
    have hsl := intsV_slice (lo := 0) (hi := i) (c := k) hd (by omega) hi hc
    have e1 : ((i : Int) - ((0 : Nat) : Int)).toNat = i := by omega
    simp only [Nat.sub_zero, List.drop_zero] at hsl
    have hcl := take_get h0 hil
    have hcb := MB.cnt_le (fun i => !((natL days).take i).contains ((natL days).getD i 0)) i
    have hcs := MB.cnt_succ (fun i => !((natL days).take i).contains ((natL days).getD i 0)) i
    simp only [he, c1, hvK_eq, Int.toNat_natCast, coreS, Value.cells, Value.oneCell', Nat.reduceAdd, Nat.reduceSub, Nat.reduceMul, Nat.reduceLeDiff, Int.reduceEq, Nat.reduceEqDiff, drawS, M11Fs31]
    simp only [e1]
    refine ⟨by omega, by omega, by omega, by omega, ⟨by omega, by omega⟩, hds, ?_⟩
    refine cQ_same _ (has71 _ i _ (days.take i) (days.getD i 0) h1 hsl (by omega)) ?_
    rw [hcl]
    cases hh : ((natL days).take i).contains ((natL days).getD i 0) with
    | true =>
      rw [hh] at hcs
      simp only [Bool.not_true, hvK_eq, coreS, Value.cells, Value.oneCell', Nat.reduceAdd, Nat.reduceSub, Nat.reduceMul, Nat.reduceLeDiff, Int.reduceEq, Nat.reduceEqDiff, drawS, M11Fs31]
      refine ⟨by rw [inK_i64]; omega, roundK_mk (by kernel_rfl) ⟨rfl, i + 1, by omega, rfl, ?_⟩ ?_⟩
      · rw [hcs]; rfl
      · show m - ((i : Int) + 1).toNat < m - (i : Int).toNat
        omega
    | false =>
      rw [hh] at hcs
      simp only [Bool.not_false, hvK_eq, coreS, Value.cells, Value.oneCell', Nat.reduceAdd, Nat.reduceSub, Nat.reduceMul, Nat.reduceLeDiff, Int.reduceEq, Nat.reduceEqDiff, drawS, M11Fs31]
      refine ⟨by rw [inK_i64]; omega, by rw [inK_i64]; omega, roundK_mk (by kernel_rfl) ⟨rfl, i + 1, by omega, rfl, ?_⟩ ?_⟩
      · rw [hcs]; rfl
      · show m - ((i : Int) + 1).toNat < m - (i : Int).toNat
        omega
  · obtain rfl : i = m := by omega
    have hlt : ¬ ((i : Int) < (i : Int)) := by omega
    simp only [he, he3, hlt, decide_false, coreS, Value.cells, Value.oneCell', Nat.reduceAdd, Nat.reduceSub, Nat.reduceMul, Nat.reduceLeDiff, Int.reduceEq, Nat.reduceEqDiff, M11Fs31]
    unfold MB.dif
    rw [natL_length, ← hml]
theorem checkDays21 (S M : Int) (a : Option Addr) (n c : Nat) (ws : List Wn) (b : Option Addr) (m k : Nat) (days : List Int) (h : Eng.Heap) (hr : Row h a (wsV ws)) (hn : n = ws.length) (hl : n ≤ 1000000) (hd : IntsV h b m days) (hm : m ≤ 1000000) (hmk : m ≤ k) :
    CallsH Tryz.prog 68 #[.agg #[.int .i64 S, .int .i64 M, .slice a n c], .slice b m k] h (fun v h' => v = .tuple #[.int .i64 (difD S M ws days), .int .i64 (chkD S M ws days)] ∧ Ext h h') := by
  have hml := hd.len
  (refine CallsH_of_exec Tryz.func68 rfl bod68 ?_; simp only [Tryz.ntmps68, Tryz.results68, coreS, stK_some, splice, Value.cells, Value.oneCell', Nat.reduceAdd, Nat.reduceSub, Nat.reduceMul, Nat.reduceLeDiff, Int.reduceEq, Nat.reduceEqDiff, M11Fs68])
  have x0 : Ext h (h.push (.cells #[.int .i64 S, .int .i64 M, .slice a n c] 24)) := (Ext.refl h).push _
  have fin : ∀ {e : Int} {Q : Prop}, chkD S M ws days = e → e ≠ 0 → Q → Value.tuple #[.int .i64 0, .int .i64 e] = Value.tuple #[.int .i64 (difD S M ws days), .int .i64 (chkD S M ws days)] ∧ Q := fun h1 h2 q => ⟨by unfold difD; rw [h1, if_neg h2], q⟩
  refine CallsH.mono (check23 S M a n c ws _ (hr.push _) hn hl) ?_
  rintro v h1 ⟨rfl, x1⟩
  have hb1 := x1.get (push_new (h := h))
  have y1 := x0.trans x1
  by_cases hc : chk S M ws = 0
  case neg =>
    simp only [hc, hb1, decide_false, Bool.not_false, coreS, Value.cells, Value.oneCell', Nat.reduceAdd, Nat.reduceSub, Nat.reduceMul, Nat.reduceLeDiff, Int.reduceEq, Nat.reduceEqDiff, M11Fs68]
    refine CallsH.mono (check23 S M a n c ws _ (hr.ext y1) hn hl) ?_
    rintro v h2 ⟨rfl, x2⟩
    simp only [coreS, Value.cells, Value.oneCell', Nat.reduceAdd, Nat.reduceSub, Nat.reduceMul, Nat.reduceLeDiff, Int.reduceEq, Nat.reduceEqDiff, M11Fs68]
    exact fin (by unfold chkD; rw [if_pos hc]) hc (y1.trans x2)
  obtain ⟨s, mm, rfl, rfl, V⟩ := chk_ok hc
  simp only [hc, hb1, Bool.not_true, decide_true, coreS, Value.cells, Value.oneCell', Nat.reduceAdd, Nat.reduceSub, Nat.reduceMul, Nat.reduceLeDiff, Int.reduceEq, Nat.reduceEqDiff, M11Fs68]
  refine ⟨fun heq => ?_, fun hne => fin (by unfold chkD; rw [if_neg (by simpa using hc), if_pos (by omega)]) (by omega) y1⟩
  have V3 := V.n
  refine WP_loopI [4, 5, 6, 18, 19, 20, 21, 22, 23, 24, 25, 26, 27, 28, 29, 30, 31, 32, 33, 34, 35] (fun e h' => h' = h1 ∧ ∃ i : Nat, i ≤ m ∧ e 6 = .int .i64 i ∧ ∀ j, j < i → 0 ≤ days.getD j 0 ∧ days.getD j 0 ≤ 13) (fun e _ => match e 6 with | .int _ q => m - q.toNat | _ => 0) ⟨rfl, 0, by omega, rfl, fun j hj => by omega⟩ ?_
  rintro e h' ⟨rfl, i, hi, he, hno⟩
  have hd1 := hd.ext y1
  have bad : ∀ i, i < days.length → ¬ (0 ≤ days.getD i 0 ∧ days.getD i 0 ≤ 13) → chkD (s : Int) (mm : Int) ws days = 3 := fun i hi hb => by
    unfold chkD
    rw [if_neg (by simpa using hc), if_neg (by omega), if_pos]
    rw [Bool.eq_false_iff]
    intro hin
    exact hb (inB_iff.1 hin _ (by simp [List.getD, List.getElem?_eq_getElem hi]))
  by_cases hil : i < days.length
  · have hlt : (i : Int) < (m : Int) := by omega
    have hds : b.isSome = true := hd.isSome (by omega)
    have c1 := hd1.cell hil
    simp only [he, hlt, c1, decide_true, Int.toNat_natCast, coreS, Value.cells, Value.oneCell', Nat.reduceAdd, Nat.reduceSub, Nat.reduceMul, Nat.reduceLeDiff, Int.reduceEq, Nat.reduceEqDiff, M11Fs68]
    refine ⟨by omega, hds, ⟨fun g1 => fin (bad i hil (by omega)) (by omega) y1, fun g1 => ?_⟩⟩
    refine ⟨by omega, hds, ⟨fun g2 => fin (bad i hil (by omega)) (by omega) y1, fun g2 => ?_⟩⟩
    refine ⟨by rw [inK_i64]; omega, roundK_mk (by kernel_rfl) ⟨rfl, i + 1, by omega, rfl, fun j hj => ?_⟩ ?_⟩
    · by_cases hji : j = i
      · subst hji; omega
      · exact hno j (by omega)
    · show m - ((i : Int) + 1).toNat < m - (i : Int).toNat
      omega
  · obtain rfl : i = m := by omega
    have hlt : ¬ ((i : Int) < (i : Int)) := by omega
    have hall : ∀ x ∈ days, 0 ≤ x ∧ x ≤ 13 := fun x hx => by
      obtain ⟨j, hj, rfl⟩ := List.getElem_of_mem hx
      have := hno j (by omega)
      simpa [List.getD, List.getElem?_eq_getElem hj] using this
    have hin := inB_iff.2 hall
    simp only [he, hlt, hb1, decide_false, coreS, Value.cells, Value.oneCell', Nat.reduceAdd, Nat.reduceSub, Nat.reduceMul, Nat.reduceLeDiff, Int.reduceEq, Nat.reduceEqDiff, M11Fs68]
    refine CallsH.mono (isRight57 s mm a n c ws b i k days h' (hr.ext y1) hn V hd1 (by omega) fun x hx => (hall x hx).1) ?_
    rintro v h2 ⟨⟨r, rfl, hrr⟩, x2⟩
    have y2 := y1.trans x2
    cases r with
    | false =>
      simp only [Bool.not_false, coreS, Value.cells, Value.oneCell', Nat.reduceAdd, Nat.reduceSub, Nat.reduceMul, Nat.reduceLeDiff, Int.reduceEq, Nat.reduceEqDiff, M11Fs68]
      refine fin ?_ (by omega) y2
      unfold chkD
      rw [if_neg (by simpa using hc), if_neg (by omega), if_neg (by simp [hin]), if_neg]
      exact fun hh => absurd (hrr.2 hh) (by simp)
    | true =>
      have hD : chkD (s : Int) (mm : Int) ws days = 0 := by
        unfold chkD
        rw [if_neg (by simpa using hc), if_neg (by omega), if_neg (by simp [hin]), if_pos (hrr.1 rfl)]
      have hD2 : difD (s : Int) (mm : Int) ws days = (MB.dif (natL days) : Nat) := by unfold difD; rw [if_pos hD]
      simp only [Bool.not_true, coreS, Value.cells, Value.oneCell', Nat.reduceAdd, Nat.reduceSub, Nat.reduceMul, Nat.reduceLeDiff, Int.reduceEq, Nat.reduceEqDiff, M11Fs68]
      refine CallsH.mono (different58 b i k days h2 (hd.ext y2) hmk hm fun x hx => (hall x hx).1) ?_
      rintro v h3 ⟨rfl, rfl⟩
      simp only [hD, hD2, coreS, Value.cells, Value.oneCell', Nat.reduceAdd, Nat.reduceSub, Nat.reduceMul, Nat.reduceLeDiff, Int.reduceEq, Nat.reduceEqDiff, M11Fs68]
      exact y2
end Go.Proofs.YtmgkeeefbfefgaaGreat
end
section
namespace Go.Proofs.YtmgkeeefbfefgaaGreat
open Go Go.Proofs Go.Eng Go.Run Tab
set_option maxRecDepth 100000
set_option linter.unusedSimpArgs false
set_option linter.unusedVariables false
set_option linter.defProp false
set_option maxHeartbeats 1000000
set_option linter.defProp false
def M13Fs7 := (And.intro @agg24 (And.intro @inf24 @sz24))
def M13Fs29 := (And.intro (And.intro (And.intro @agg57 @inf3) (And.intro @inf57 @sz3)) (And.intro (And.intro @sz57 @zero57) (And.intro @Tryz.underlying3 @Tryz.underlying57)))
def M13Fs62 := (And.intro (And.intro @agg3 @by3) (And.intro @inf3 (And.intro @sz3 @Tryz.underlying25)))
def up1 (o x : Int) : Int := if o < x then x else o
theorem fold_up : ∀ (l : List Int) (o : Int), o ≤ l.foldl up1 o ∧ (∀ x ∈ l, x ≤ l.foldl up1 o) ∧ (l.foldl up1 o = o ∨ l.foldl up1 o ∈ l)
  | [], o => ⟨Int.le_refl _, by simp, .inl rfl⟩
  | y :: l, o => by
    obtain ⟨h1, h2, h3⟩ := fold_up l (up1 o y)
    have ho : o ≤ up1 o y ∧ y ≤ up1 o y := by unfold up1; split <;> omega
    have hy : up1 o y = o ∨ up1 o y = y := by unfold up1; split <;> simp
    simp only [List.foldl_cons, List.mem_cons]
    refine ⟨by omega, fun x hx => ?_, ?_⟩
    · rcases hx with rfl | hx
      · omega
      · exact h2 x hx
    · rcases h3 with h3 | h3
      · rw [h3]; rcases hy with hy | hy
        · exact .inl hy
        · exact .inr (.inl hy)
      · exact .inr (.inr h3)
def mxI (xs : List Int) : Int := (xs.drop 1).foldl up1 (xs.getD 0 0)
theorem mxI_ge {xs : List Int} {x : Int} (hx : x ∈ xs) : x ≤ mxI xs := by
  cases xs with
  | nil => cases hx
  | cons y l =>
    obtain ⟨h1, h2, _⟩ := fold_up l y
    show x ≤ l.foldl up1 y
    rcases List.mem_cons.1 hx with rfl | hx
    · exact h1
    · exact h2 x hx
theorem mxI_mem {xs : List Int} (h : 0 < xs.length) : mxI xs ∈ xs := by
  cases xs with
  | nil => simp at h
  | cons y l =>
    obtain ⟨_, _, h3⟩ := fold_up l y
    show l.foldl up1 y ∈ _
    rcases h3 with h3 | h3
    · rw [h3]; simp
    · exact List.mem_cons_of_mem _ h3
theorem more97 (x y : Int) (h : Eng.Heap) : CallsH Tryz.prog 61 #[.int .i64 x, .int .i64 y] h (fun v h' => v = .bool (decide (y < x)) ∧ h' = h) := by
  (refine CallsH_of_exec Tryz.func61 rfl bod61 ?_; simp only [Tryz.ntmps61, Tryz.results61, coreS, stK_some, splice, Value.cells, Value.oneCell', Nat.reduceAdd, Nat.reduceSub, Nat.reduceMul, Nat.reduceLeDiff, Int.reduceEq, Nat.reduceEqDiff])
theorem best98 (a : Option Addr) (n c : Nat) (xs : List Int) (h : Eng.Heap) (hd : IntsV h a n xs) (h1 : 0 < n) (hc : n ≤ c) (hl : n ≤ 1000000) :
    CallsH Tryz.prog 62 #[.slice a n c, .func (.func 61) #[] #[]] h (fun v h' => v = .int .i64 (mxI xs) ∧ h' = h) := by
  have hml := hd.len
  (refine CallsH_of_exec Tryz.func62 rfl bod62 ?_; simp only [Tryz.ntmps62, Tryz.results62, coreS, stK_some, splice, Value.cells, Value.oneCell', Nat.reduceAdd, Nat.reduceSub, Nat.reduceMul, Nat.reduceLeDiff, Int.reduceEq, Nat.reduceEqDiff, M13Fs62])
  have c0 := hd.cell (j := 0) (by omega)
  have hsm := hd.isSome (by omega)
  have hsl := intsV_slice (lo := 1) (hi := n) (c := c) hd (by omega) (Nat.le_refl _) hc
  have e1 : ((n : Int) - 1).toNat = n - 1 := by omega
  have e2 : ((c : Int) - 1).toNat = c - 1 := by omega
  have ht : (xs.drop 1).take (n - 1) = xs.drop 1 := List.take_of_length_le (by simp; omega)
  rw [ht] at hsl
  obtain ⟨sl, hsle⟩ : ∃ sl, sl = (if (c : Int) = ((1 : Nat) : Int) then a else eltP a 1) := ⟨_, rfl⟩
  have hsle2 : (if (c : Int) = 1 then a else eltP a 1) = sl := by rw [hsle]; rfl
  rw [← hsle] at hsl
  simp only [c0, e1, e2, hsle2, coreS, Value.cells, Value.oneCell', Nat.reduceAdd, Nat.reduceSub, Nat.reduceMul, Nat.reduceLeDiff, Int.reduceEq, Nat.reduceEqDiff, M13Fs62]
  refine ⟨⟨by omega, by omega⟩, hsm, by omega, by omega, by omega, by omega, ?_⟩
  refine WP_loopI [5, 7, 14, 15, 16, 17, 18, 19, 20, 21, 22, 23] (fun e h' => h' = h ∧ ∃ i : Nat, i ≤ n - 1 ∧ e 14 = .int .i64 i ∧ e 5 = .int .i64 (((xs.drop 1).take i).foldl up1 (xs.getD 0 0))) (fun e _ => match e 14 with | .int _ q => (n - 1) - q.toNat | _ => 0) ⟨rfl, 0, by omega, rfl, rfl⟩ ?_
  rintro e h' ⟨rfl, i, hi, he, he5⟩
  have hdl : (xs.drop 1).length = n - 1 := by simp; omega
  by_cases hil : i < (xs.drop 1).length
  · have hlt : (i : Int) < ((n - 1 : Nat) : Int) := by omega
    have c1 := hsl.cell hil
    have hss := hsl.isSome (by omega)
    have hnx : ((xs.drop 1).take (i + 1)).foldl up1 (xs.getD 0 0) = up1 (((xs.drop 1).take i).foldl up1 (xs.getD 0 0)) ((xs.drop 1).getD i 0) := by
      rw [List.take_add_one, List.getElem?_eq_getElem hil, List.foldl_append]
      simp only [Option.toList_some, List.foldl_cons, List.foldl_nil]
      rw [List.getD_eq_getElem?_getD, List.getD_eq_getElem?_getD, List.getElem?_eq_getElem hil]
      rfl
    simp only [he, he5, hlt, c1, decide_true, Int.toNat_natCast, coreS, Value.cells, Value.oneCell', Nat.reduceAdd, Nat.reduceSub, Nat.reduceMul, Nat.reduceLeDiff, Int.reduceEq, Nat.reduceEqDiff, M13Fs62]
    refine ⟨by omega, hss, ?_⟩
    refine CallsH.mono (more97 _ _ h') ?_
    rintro v h2 ⟨rfl, rfl⟩
    by_cases hm : (((xs.drop 1).take i).foldl up1 (xs.getD 0 0)) < (xs.drop 1).getD i 0
    · simp only [hm, he, decide_true, coreS, Value.cells, Value.oneCell', Nat.reduceAdd, Nat.reduceSub, Nat.reduceMul, Nat.reduceLeDiff, Int.reduceEq, Nat.reduceEqDiff, M13Fs62]
      refine ⟨by rw [inK_i64]; omega, roundK_mk (by kernel_rfl) ⟨rfl, i + 1, by omega, rfl, ?_⟩ ?_⟩
      · rw [hnx, up1, if_pos hm]; rfl
      · show (n - 1) - ((i : Int) + 1).toNat < (n - 1) - (i : Int).toNat
        omega
    · simp only [hm, he, decide_false, coreS, Value.cells, Value.oneCell', Nat.reduceAdd, Nat.reduceSub, Nat.reduceMul, Nat.reduceLeDiff, Int.reduceEq, Nat.reduceEqDiff, M13Fs62]
      refine ⟨by rw [inK_i64]; omega, roundK_mk (by kernel_rfl) ⟨rfl, i + 1, by omega, rfl, ?_⟩ ?_⟩
      · rw [hnx, up1, if_neg hm]; rfl
      · show (n - 1) - ((i : Int) + 1).toNat < (n - 1) - (i : Int).toNat
        omega
  · obtain rfl : i = n - 1 := by omega
    have hlt : ¬ (((n - 1 : Nat) : Int) < ((n - 1 : Nat) : Int)) := by omega
    rw [List.take_of_length_le (by omega)] at he5
    simp only [he, he5, hlt, decide_false, coreS, Value.cells, Value.oneCell', Nat.reduceAdd, Nat.reduceSub, Nat.reduceMul, Nat.reduceLeDiff, Int.reduceEq, Nat.reduceEqDiff, M13Fs62]
    rfl
def gld (ws : List Wn) : Nat := (max (mxI (ldL (shN ws) 6 ws.length)) (mxI (ldL (moN ws) 6 ws.length))).toNat
theorem ldL_mem {f : Nat → Nat} {S i x : Nat} (hx : x < S) : (MB.load f i x : Int) ∈ ldL f S i := List.mem_map.2 ⟨x, List.mem_range.2 hx, rfl⟩
theorem mem_ldL {f : Nat → Nat} {S i : Nat} {y : Int} (h : y ∈ ldL f S i) : ∃ x, x < S ∧ y = (MB.load f i x : Nat) := by
  obtain ⟨x, hx, rfl⟩ := List.mem_map.1 h
  exact ⟨x, List.mem_range.1 hx, rfl⟩
theorem mxI_ld (f : Nat → Nat) (i : Nat) : ∃ x, x < 6 ∧ mxI (ldL f 6 i) = (MB.load f i x : Nat) := mem_ldL (mxI_mem (by rw [ldL_length]; omega))
theorem gld_cast (ws : List Wn) : ((gld ws : Nat) : Int) = max (mxI (ldL (shN ws) 6 ws.length)) (mxI (ldL (moN ws) 6 ws.length)) := by
  obtain ⟨x, _, h1⟩ := mxI_ld (shN ws) ws.length
  obtain ⟨y, _, h2⟩ := mxI_ld (moN ws) ws.length
  unfold gld
  rw [h1, h2]
  omega
theorem gld_great {S M : Nat} {ws : List Wn} (V : Vb S M ws) : MB.Great (shN ws) (moN ws) ws.length (gld ws) := by
  have hg := gld_cast ws
  have hS := V.s2
  have hM := V.m2
  refine ⟨fun s => ?_, fun m => ?_, ?_⟩
  · by_cases h0 : 0 < MB.load (shN ws) ws.length s
    · obtain ⟨i, hi, rfl⟩ := MB.pos_load h0
      have := (V.s hi).2
      have := mxI_ge (ldL_mem (f := shN ws) (S := 6) (i := ws.length) (x := shN ws i) (by omega))
      omega
    · omega
  · by_cases h0 : 0 < MB.load (moN ws) ws.length m
    · obtain ⟨i, hi, rfl⟩ := MB.pos_load h0
      have := (V.m hi).2
      have := mxI_ge (ldL_mem (f := moN ws) (S := 6) (i := ws.length) (x := moN ws i) (by omega))
      omega
    · omega
  · obtain ⟨x, _, h1⟩ := mxI_ld (shN ws) ws.length
    obtain ⟨y, _, h2⟩ := mxI_ld (moN ws) ws.length
    by_cases h : mxI (ldL (shN ws) 6 ws.length) ≤ mxI (ldL (moN ws) 6 ws.length)
    · exact .inr (.inr ⟨y, by omega⟩)
    · exact .inr (.inl ⟨x, by omega⟩)
theorem gld_le {S M : Nat} {ws : List Wn} (V : Vb S M ws) : gld ws ≤ ws.length := by
  rcases (gld_great V).is with h | ⟨s, h⟩ | ⟨s, h⟩
  · omega
  · rw [← h]; exact MB.cnt_le _ _
  · rw [← h]; exact MB.cnt_le _ _
theorem gld_nil {S M : Nat} {ws : List Wn} (V : Vb S M ws) (h : ldL (shN ws) 6 ws.length = List.replicate 6 0) : gld ws = 0 := by
  by_cases hn : 0 < ws.length
  · have h1 := MB.load_pos (f := shN ws) hn
    have hs := (V.s hn).2
    have hS := V.s2
    have h2 := ldL_get (f := shN ws) (S := 6) (i := ws.length) (x := shN ws 0) (by omega)
    rw [h] at h2
    have h3 : (List.replicate 6 (0 : Int)).getD (shN ws 0) 0 = 0 := by rw [List.getD_eq_getElem?_getD, List.getElem?_replicate]; split <;> rfl
    omega
  · have := gld_le V
    omega
theorem most82 (g b S M : Nat) (a : Option Addr) (n c : Nat) (ws : List Wn) (h : Eng.Heap) (hg : DeskB h g b S M a n c) (hr : Row h a (wsV ws)) (hn : n = ws.length) (V : Vb S M ws) :
    CallsH Tryz.prog 29 #[.pointer (some ⟨g, 0, none⟩)] h (fun v h' => v = .int .i64 (gld ws : Nat) ∧ Ext h h') := by
  (refine CallsH_of_exec Tryz.func29 rfl bod29 ?_; simp only [Tryz.ntmps29, Tryz.results29, coreS, stK_some, splice, Value.cells, Value.oneCell', Nat.reduceAdd, Nat.reduceSub, Nat.reduceMul, Nat.reduceLeDiff, Int.reduceEq, Nat.reduceEqDiff, M13Fs29])
  refine CallsH.mono (loads50 g b S M a n c ws h hg hr hn V) ?_
  rintro v h2 ⟨rfl, x2⟩
  have l1 : (ldv (shN ws) 6 n).length = 6 := ldv_length
  have l2 : (ldv (moN ws) 6 n).length = 6 := ldv_length
  have sp : ∀ f : Nat → Nat, splice [.int .i64 0, .int .i64 0, .int .i64 0, .int .i64 0, .int .i64 0, .int .i64 0] 0 (ldv f 6 n) = ldv f 6 n := fun f => by
    simp [splice, ldv_length]
  simp only [l1, l2, ldv_one, List.size_toArray, List.toList_toArray, coreS, Value.cells, Value.oneCell', Nat.reduceAdd, Nat.reduceSub, Nat.reduceMul, Nat.reduceLeDiff, Int.reduceEq, Nat.reduceEqDiff, M13Fs29]
  have p0 : ((h2.push (.cells #[.int .i64 0, .int .i64 0, .int .i64 0, .int .i64 0, .int .i64 0, .int .i64 0] 57)).push (.cells #[.int .i64 0, .int .i64 0, .int .i64 0, .int .i64 0, .int .i64 0, .int .i64 0] 57))[h2.size]? = some (.cells #[.int .i64 0, .int .i64 0, .int .i64 0, .int .i64 0, .int .i64 0, .int .i64 0] 57) := pn0
  refine stK_abs p0 (by simp [l1]) fun h3 g3 u3 => ?_
  rw [sp] at g3
  have p1 : h3[h2.size + 1]? = some (.cells #[.int .i64 0, .int .i64 0, .int .i64 0, .int .i64 0, .int .i64 0, .int .i64 0] 57) := u3.get pn1 (by omega)
  simp only [p1, l1, l2, ldv_one, List.size_toArray, List.toList_toArray, coreS, Value.cells, Value.oneCell', Nat.reduceAdd, Nat.reduceSub, Nat.reduceMul, Nat.reduceLeDiff, Int.reduceEq, Nat.reduceEqDiff, M13Fs29]
  refine stK_abs p1 (by simp [l2]) fun h4 g4 u4 => ?_
  rw [sp] at g4
  have g3' := u4.get g3 (by omega)
  have x4 : Ext h2 h4 := u4.ext (u3.ext (((Ext.refl h2).push _).push _) (by omega)) (by omega)
  have y4 := x2.trans x4
  clear u3 u4 g3 p0 p1
  have k1 := cesO_cells (c := ldv (shN ws) 6 n) (ct := 57) (fr := (0, 0)) (show 0 + 6 ≤ _ by rw [l1]; omega)
  have t1 : List.take 6 (ldv (shN ws) 6 n) = ldv (shN ws) 6 n := List.take_of_length_le (by rw [ldv_length]; exact Nat.le_refl _)
  simp only [List.drop_zero, t1] at k1
  simp only [g3', k1, coreS, Value.cells, Value.oneCell', Nat.reduceAdd, Nat.reduceSub, Nat.reduceMul, Nat.reduceLeDiff, Int.reduceEq, Nat.reduceEqDiff, M13Fs29]
  have okf57 : okFields Tryz.prog 57 = false := by kernel_rfl
  simp only [okf57, bldO_no]
  refine build_zeroT (z := Eng.ints (List.replicate 6 0)) Tryz.underlying57 inf3 zero57 ?_
  simp only [coreS, Value.cells, Value.oneCell', Nat.reduceAdd, Nat.reduceSub, Nat.reduceMul, Nat.reduceLeDiff, Int.reduceEq, Nat.reduceEqDiff, M13Fs29]
  refine eqIntsW (xs := ldL (shN ws) 6 n) (ys := List.replicate 6 0) Pt.ok (ti := (Pt.pr.ty 57).getD ⟨0, 0, .any, .other, []⟩) (by kernel_rfl) (by rw [ldL_length]; rfl) (by rw [ldL_length]; omega) (by rw [ldL_length]; kernel_rfl) (by rfl) (by rfl) ?_
  simp only [coreS, Value.cells, Value.oneCell', Nat.reduceAdd, Nat.reduceSub, Nat.reduceMul, Nat.reduceLeDiff, Int.reduceEq, Nat.reduceEqDiff, M13Fs29]
  refine ⟨fun he => ?_, fun he => ?_⟩
  · have hgn := gld_nil V (by rw [← hn]; exact he)
    rw [hgn]
    exact ⟨rfl, y4⟩
  · have z6 : (((6 : Nat) : Int) = ((0 : Nat) : Int)) = False := by simp
    have f6 : (((6 : Nat) : Int) - ((0 : Nat) : Int)).toNat = 6 := by decide
    have i1 : IntsV h4 (some ⟨h2.size, 0, none⟩) 6 (ldL (shN ws) 6 n) := by
      have := IntsV.block (xs := ldL (shN ws) 6 n) g3'
      rwa [ldL_length] at this
    have i2 : IntsV h4 (some ⟨h2.size + 1, 0, none⟩) 6 (ldL (moN ws) 6 n) := by
      have := IntsV.block (xs := ldL (moN ws) 6 n) g4
      rwa [ldL_length] at this
    refine WP_draw (by kernel_rfl) sta_eq [(0, 0), (1, 0), (2, 0), (3, 0), (4, 0), (5, 0), (6, 0), (7, 0)] (by kernel_rfl) rfl (by kernel_rfl) ?_
    simp only [z6, f6, if_false, hvK_eq, coreS, Value.cells, Value.oneCell', Nat.reduceAdd, Nat.reduceSub, Nat.reduceMul, Nat.reduceLeDiff, Int.reduceEq, Nat.reduceEqDiff, drawS, M13Fs29]
    refine ⟨by omega, by omega, by omega, by omega, ?_⟩
    refine cQ_same _ (best98 _ 6 6 _ h4 i1 (by omega) (by omega) (by omega)) ?_
    simp only [z6, f6, if_false, hvK_eq, coreS, Value.cells, Value.oneCell', Nat.reduceAdd, Nat.reduceSub, Nat.reduceMul, Nat.reduceLeDiff, Int.reduceEq, Nat.reduceEqDiff, drawS, M13Fs29]
    refine ⟨by omega, by omega, by omega, by omega, ?_⟩
    refine cQ_same _ (best98 _ 6 6 _ h4 i2 (by omega) (by omega) (by omega)) ?_
    have hgc := gld_cast ws
    rw [← hn] at hgc
    simp only [hvK_eq, coreS, Value.cells, Value.oneCell', Nat.reduceAdd, Nat.reduceSub, Nat.reduceMul, Nat.reduceLeDiff, Int.reduceEq, Nat.reduceEqDiff, drawS, M13Fs29]
    refine ⟨?_, y4⟩
    rw [hgc]
    congr 1
    split <;> omega
theorem fewest47 (S M : Int) (a : Option Addr) (n c : Nat) (ws : List Wn) (h : Eng.Heap) (hr : Row h a (wsV ws)) (hn : n = ws.length) (hl : n ≤ 1000000) :
    CallsH Tryz.prog 7 #[.agg #[.int .i64 S, .int .i64 M, .slice a n c]] h (fun v h' => v = .tuple #[.int .i64 (if chk S M ws = 0 then (gld ws : Nat) else 0), .int .i64 (chk S M ws)] ∧ Ext h h') := by
  (refine CallsH_of_exec Tryz.func7 rfl bod7 ?_; simp only [Tryz.ntmps7, Tryz.results7, coreS, stK_some, splice, Value.cells, Value.oneCell', Nat.reduceAdd, Nat.reduceSub, Nat.reduceMul, Nat.reduceLeDiff, Int.reduceEq, Nat.reduceEqDiff, M13Fs7])
  have x0 : Ext h (h.push (.cells #[.int .i64 S, .int .i64 M, .slice a n c] 24)) := (Ext.refl h).push _
  refine CallsH.mono (open49 S M a n c ws _ (hr.push _) hn hl) ?_
  rintro v h1 ⟨x1, ⟨s, m, rfl, rfl, V, g, b, rfl, hg, hmb, hgs, hbs⟩ | ⟨hc, rfl⟩⟩
  · have y1 := x0.trans x1
    simp only [Bool.not_true, decide_true, coreS, Value.cells, Value.oneCell', Nat.reduceAdd, Nat.reduceSub, Nat.reduceMul, Nat.reduceLeDiff, Int.reduceEq, Nat.reduceEqDiff, M13Fs7]
    refine CallsH.mono (most82 g b s m a n c ws h1 hg (hr.ext y1) hn V) ?_
    rintro v h2 ⟨rfl, x2⟩
    simp only [V.chk, if_true, coreS, Value.cells, Value.oneCell', Nat.reduceAdd, Nat.reduceSub, Nat.reduceMul, Nat.reduceLeDiff, Int.reduceEq, Nat.reduceEqDiff, M13Fs7]
    exact y1.trans x2
  · simp only [hc, decide_false, Bool.not_false, if_false, coreS, Value.cells, Value.oneCell', Nat.reduceAdd, Nat.reduceSub, Nat.reduceMul, Nat.reduceLeDiff, Int.reduceEq, Nat.reduceEqDiff, M13Fs7]
    exact x0.trans x1
end Go.Proofs.YtmgkeeefbfefgaaGreat
end
