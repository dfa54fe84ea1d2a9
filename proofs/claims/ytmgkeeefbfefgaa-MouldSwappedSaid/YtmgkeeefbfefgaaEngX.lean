/- The engine: a cut behind any piece of code; a plain region of quiet operations, evaluated by the kernel. No condition. -/
import Derived.Test.YtmgkeeefbfefgaaEng
set_option linter.unusedVariables false
set_option linter.unusedSimpArgs false
namespace Go.Eng
open Go
/-- What is known behind a piece of code: the frame but for some slots, and what I says of these and the heap. -/
theorem WP_cut {l : Option Nat} {P : Program} {c : Code} {n : Env → List Deferred → Heap → Prop} {k : Cont} {e : Env} {d : List Deferred} {h : Heap} (ws : List Nat) (I : (Nat → Value) → Heap → Prop)
    (H : WP l P c (thenK (midK e d ws I) k) e d h) (Hn : ∀ g h', I g h' → n (mkE e ws g) d h') : WP l P c (thenK n k) e d h :=
  WP_mono (thenK_mono (fun e' d' h' hmid => by
    unfold midK at hmid
    obtain ⟨h1, h2, h3⟩ := hmid
    subst h1
    rw [h2]
    exact Hn _ _ h3) (fun _ _ _ _ h => h)) H
/-- The equality of two integers of one kind. -/
def eqO : Value → Value → Option Bool
  | .int k a, .int k' b => if k = k' then some (decide (a = b)) else none
  | _, _ => none
def pureO (e : Env) : Op → Option Value
  | .move x => some (ev e x)
  | .assign x => some (ev e x)
  | .pick c a b => match ev e c with
    | .bool true => some (ev e a)
    | .bool false => some (ev e b)
    | _ => none
  | .binOp .eql _ x y _ => (eqO (ev e x) (ev e y)).map .bool
  | .binOp .neq _ x y _ => (eqO (ev e x) (ev e y)).map fun b => .bool (!b)
  | _ => none
def evalP (all : List Oper) : List Oper → Env → Option Env
  | [], e => some e
  | o :: rest, e => match o.guard with
    | none => (pureO e o.op).bind fun v => evalP all rest (putE e o.dst v)
    | some (j, want) => match gslot all j with
      | none => none
      | some t => match e.getD t undef with
        | .bool b => if b = want then (pureO e o.op).bind fun v => evalP all rest (putE e o.dst v) else evalP all rest (putE e o.dst undef)
        | _ => none
theorem eqO_some {v w : Value} {b : Bool} (h : eqO v w = some b) : ∃ k x y, v = .int k x ∧ w = .int k y ∧ b = decide (x = y) := by
  unfold eqO at h
  split at h
  · split at h
    · rename_i hk
      subst hk
      exact ⟨_, _, _, rfl, rfl, (Option.some.inj h).symm⟩
    · cases h
  · cases h
section pureR
variable {P : Program} {k : Cont} {d : List Deferred} {h : Heap}
theorem pureO_sound {e : Env} {o : Op} {v : Value} {ty : TypeId} {K : Value → Heap → Prop} (H : pureO e o = some v) (hK : K v h) : opW P o ty e h K := by
  unfold pureO at H
  unfold opW
  split at H
  · cases H; exact hK
  · cases H; exact hK
  · split at H
    · rename_i hc; cases H; simp only [hc]; exact hK
    · rename_i hc; cases H; simp only [hc]; exact hK
    · cases H
  · rename_i ty2 x y yt
    obtain ⟨b, hb, rfl⟩ := Option.map_eq_some_iff.1 H
    obtain ⟨kd, a, c, h1, h2, rfl⟩ := eqO_some hb
    simp only [h1, h2]
    unfold binW intW
    exact ⟨rfl, hK⟩
  · rename_i ty2 x y yt
    obtain ⟨b, hb, rfl⟩ := Option.map_eq_some_iff.1 H
    obtain ⟨kd, a, c, h1, h2, rfl⟩ := eqO_some hb
    simp only [h1, h2]
    unfold binW intW
    exact ⟨rfl, hK⟩
  · cases H
theorem execR_pure {all : List Oper} {e' : Env} : ∀ (ops : List Oper) (e : Env), evalP all ops e = some e' → k .normal e' d h → execR P all ops k e d h
  | [], e, H, hk => by
    unfold execR
    cases H
    exact hk
  | o :: rest, e, H, hk => by
    unfold execR guardW
    unfold evalP at H
    have plain : ((pureO e o.op).bind fun v => evalP all rest (putE e o.dst v)) = some e' → opW P o.op o.type e h (fun v h' => execR P all rest k (putE e o.dst v) d h') := fun H => by
      obtain ⟨v, h1, h2⟩ := Option.bind_eq_some_iff.1 H
      exact pureO_sound h1 (execR_pure rest _ h2 hk)
    split at H
    · rename_i hg
      simp only [hg]
      exact plain H
    · rename_i j want hg
      simp only [hg]
      split at H
      · cases H
      · rename_i t hs
        simp only [hs]
        split at H
        · rename_i b hb
          have ht : t < e.length := by
            rcases Nat.lt_or_ge t e.length with h | h
            · exact h
            · simp [List.getD, List.getElem?_eq_none h, undef] at hb
          have hset := set_bool_same hb ht
          rw [hb]
          unfold boolW
          have key : ∀ c, b = c → (if c = want then opW P o.op o.type (e.set t (.bool c)) h (fun v h' => execR P all rest k (putE (e.set t (.bool c)) o.dst v) d h') else execR P all rest k (putE (e.set t (.bool c)) o.dst undef) d h) := by
            rintro c rfl
            rw [hset]
            by_cases hw : b = want
            · rw [if_pos hw] at H ⊢; exact plain H
            · rw [if_neg hw] at H ⊢; exact execR_pure rest _ H hk
          exact ⟨fun hb => key true hb, fun hb => key false hb⟩
        · cases H
/-- A plain region of quiet operations. -/
theorem execR_quiet {all : List Oper} {e : Env} (ws : List Nat) (hs : (evalP all all e).isSome = true) (hw : mkE e ws (fun i => ((evalP all all e).getD []).getD i undef) = (evalP all all e).getD [])
    (H : ∀ g : Nat → Value, (g = fun i => ((evalP all all e).getD []).getD i undef) → k .normal (mkE e ws g) d h) : execR P all all k e d h := by
  obtain ⟨e', he⟩ := Option.isSome_iff_exists.1 hs
  refine execR_pure all e he ?_
  have := H _ rfl
  rw [hw, he] at this
  exact this
end pureR
end Go.Eng
