/- The evaluator's pieces, their ends compared by a function. No condition. -/
import Derived.Test.YtmpfljfffljoeaaGreatDoorRunM
set_option linter.unusedVariables false
set_option linter.unusedSimpArgs false
set_option linter.defProp false
namespace Go.Run
open Go Go.Eng
noncomputable def chkE (m : Fm) (e : E) : List (Nat × T) → Bool
  | [] => true
  | x :: l => match Nat.ble (Nat.succ x.1) m.n && eqV (seeE m e x.1) x.2 with | true => chkE m e l | false => false
noncomputable def chkV (s : S) : List (Nat × VO) → Bool
  | [] => true
  | x :: l => match Nat.ble x.1 16383 && (match s.at x.1 with | some o => eqVO o x.2 | none => false) with | true => chkV s l | false => false
theorem chkE_eq {m : Fm} {e : E} : ∀ {l : List (Nat × T)} {acc : E}, chkE m e l = true → keepFr m (l.map (·.1)) e acc = fromE m l acc
  | [], acc, _ => rfl
  | x :: l, acc, h => by
    unfold chkE at h
    split at h
    · rename_i hc
      simp only [Bool.and_eq_true] at hc
      show keepFr m (x.1 :: l.map (·.1)) e acc = fromE m (x :: l) acc
      unfold keepFr fromE
      rw [ite_eq, if_pos hc.1, force_eq, En.setK_eq, En.setK_eq, eqV_sound hc.2]
      exact chkE_eq h
    · cases h
theorem chkV_eq {s : S} : ∀ {l : List (Nat × VO)} {V : En (Option VO)}, chkV s l = true → keepV (l.map (·.1)) s V = fromV l V
  | [], V, _ => rfl
  | x :: l, V, h => by
    unfold chkV at h
    split at h
    · rename_i hc
      simp only [Bool.and_eq_true] at hc
      have hat : s.at x.1 = some x.2 := by
        have h2 := hc.2
        split at h2
        · rename_i o ho; rw [ho, eqVO_sound h2]
        · cases h2
      show keepV (x.1 :: l.map (·.1)) s V = fromV (x :: l) V
      unfold keepV fromV
      rw [ite_eq, if_pos hc.1, En.setK_eq, En.setK_eq, hat]
      exact chkV_eq h
    · cases h
noncomputable def segQ (p : Pr) (n : Nat) (m : Fm) (cs : List Code) (x2 : Ex) (LE : List (Nat × T)) (d2 : List Nat) (LV : List (Nat × VO)) (nx low : Nat) (e : E) (d : List Nat) (s : S) : Bool :=
  match runL (runC p n) m none cs e d s with
  | .ok ⟨x, e, d, s⟩ => eqX x x2 && (sameD d d2 && (Nat.beq s.nx nx && (Nat.beq s.low low && (chkE m e LE && chkV s LV))))
  | _ => false
theorem segX_of {p : Pr} {n : Nat} {m : Fm} {cs : List Code} {x2 : Ex} {LE : List (Nat × T)} {d2 : List Nat} {LV : List (Nat × VO)} {nx low : Nat} {e : E} {d : List Nat} {s : S} (h : segQ p n m cs x2 LE d2 LV nx low e d s = true) :
    segX p n m cs (LE.map (·.1)) (LV.map (·.1)) e d s = some (x2, fromE m LE (.leaf .any), d2, ⟨fromV LV (.leaf none), nx, low⟩) := by
  unfold segQ at h
  unfold segX
  split at h
  · rename_i x e1 d1 s1 hr
    simp only [Bool.and_eq_true] at h
    obtain ⟨h1, h2, h3, h4, h5, h6⟩ := h
    rw [hr]
    simp only
    rw [eqX_sound h1, sameD_sound h2, Nat.eq_of_beq_eq_true h3, Nat.eq_of_beq_eq_true h4, chkE_eq h5, chkV_eq h6]
  · cases h
theorem seg_of {p : Pr} {n : Nat} {m : Fm} {cs : List Code} {LE : List (Nat × T)} {d2 : List Nat} {LV : List (Nat × VO)} {nx low : Nat} {e : E} {d : List Nat} {s : S} (h : segQ p n m cs .normal LE d2 LV nx low e d s = true) :
    seg p n m cs (LE.map (·.1)) (LV.map (·.1)) e d s = some (fromE m LE (.leaf .any), d2, ⟨fromV LV (.leaf none), nx, low⟩) := by
  unfold segQ at h
  unfold seg
  split at h
  · rename_i x e1 d1 s1 hr
    simp only [Bool.and_eq_true] at h
    obtain ⟨h1, h2, h3, h4, h5, h6⟩ := h
    rw [hr]
    cases eqX_sound h1
    simp only
    rw [sameD_sound h2, Nat.eq_of_beq_eq_true h3, Nat.eq_of_beq_eq_true h4, chkE_eq h5, chkV_eq h6]
  · cases h
end Go.Run
