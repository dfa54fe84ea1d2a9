/- The engine: loops in which ranges over functions leave blocks for deferred calls. No condition. -/
import Derived.Test.YtmgkeeefbfefgaaEngF
set_option linter.unusedVariables false
set_option linter.unusedSimpArgs false
namespace Go.Eng
open Go
section loopd
variable {l : Option Nat} {P : Program}
def roundD (e0 : Env) (ws : List Nat) (I : (Nat → Value) → List Deferred → Heap → Prop) (μ : (Nat → Value) → Heap → Nat) (n : Nat) (e : Env) (d : List Deferred) (h : Heap) : Prop :=
  e = mkE e0 ws (fun i => e.getD i undef) ∧ I (fun i => e.getD i undef) d h ∧ μ (fun i => e.getD i undef) h < n
theorem roundD_mk {e0 e : Env} {d : List Deferred} {ws : List Nat} {I : (Nat → Value) → List Deferred → Heap → Prop} {μ : (Nat → Value) → Heap → Nat} {n : Nat} {h : Heap}
    (h1 : e = mkE e0 ws (fun i => e.getD i undef)) (h2 : I (fun i => e.getD i undef) d h) (h3 : μ (fun i => e.getD i undef) h < n) : roundD e0 ws I μ n e d h := ⟨h1, h2, h3⟩
theorem WP_loopD {c : Code} {k : Cont} {e : Env} {d : List Deferred} {h : Heap} (ws : List Nat) (I : (Nat → Value) → List Deferred → Heap → Prop) (μ : (Nat → Value) → Heap → Nat)
    (h0 : I (fun i => e.getD i undef) d h)
    (round : ∀ g d' h', I g d' h' → exec l P c (thenK (roundD e ws I μ (μ g h')) k) (mkE e ws g) d' h') : WP l P (.loop c) k e d h := by
  unfold WP
  intro w hw
  refine wpIn_loop (fun a w' => (a.tmps.toList = mkE e ws (fun i => a.tmps.toList.getD i undef) ∧ I (fun i => a.tmps.toList.getD i undef) a.defers w'.heap) ∧ Rest w w')
    (fun a w' => μ (fun i => a.tmps.toList.getD i undef) w'.heap) ⟨⟨by rw [mkE_self], by subst hw; simpa using h0⟩, Rest.refl w⟩ ?_
  rintro a w' ⟨⟨he', hI⟩, hr⟩
  have h1 := round _ _ w'.heap hI
  rw [← he'] at h1
  have h1 := exec_sound _ _ _ _ _ h1
  unfold WP at h1
  have h1 := h1 w' rfl
  rw [toList_act] at h1
  refine wpIn_mono h1 ?_
  rintro x a' w'' ⟨hq, hr'⟩
  cases x with
  | normal =>
    unfold thenK at hq
    obtain ⟨q1, q2, q3⟩ := hq
    exact ⟨⟨⟨q1, q2⟩, hr.trans hr'⟩, q3⟩
  | _ => unfold thenK at hq; exact ⟨hq, hr.trans hr'⟩
attribute [irreducible] roundD
/-- Blocks for deferred calls, all of them empty. -/
def Marks (m0 m1 : Nat) (h : Heap) (d : List Deferred) : Prop := ∃ rs : List Nat, d = rs.map mkD ∧ rs.Nodup ∧ ∀ r ∈ rs, m0 ≤ r ∧ r < m1 ∧ h[r]? = some (.deferred (some []))
theorem Marks.nil (m0 m1 : Nat) (h : Heap) : Marks m0 m1 h [] := ⟨[], rfl, List.nodup_nil, by simp⟩
theorem Marks.keep {m0 m1 : Nat} {h h' : Heap} {d : List Deferred} (M : Marks m0 m1 h d) (hk : ∀ r, m0 ≤ r → r < m1 → ∀ o, h[r]? = some o → h'[r]? = some o) : Marks m0 m1 h' d := by
  obtain ⟨rs, h1, h2, h3⟩ := M
  exact ⟨rs, h1, h2, fun r hr => ⟨(h3 r hr).1, (h3 r hr).2.1, hk r (h3 r hr).1 (h3 r hr).2.1 _ (h3 r hr).2.2⟩⟩
theorem Marks.ext {m0 m1 : Nat} {h h' : Heap} {d : List Deferred} (M : Marks m0 m1 h d) (x : Ext h h') : Marks m0 m1 h' d := M.keep fun _ _ _ _ ho => x.get ho
theorem Marks.upd {m0 m1 b : Nat} {h h' : Heap} {d : List Deferred} (M : Marks m0 m1 h d) (u : Upd h h' b) (hb : b < m0 ∨ m1 ≤ b) : Marks m0 m1 h' d := M.keep fun r h1 h2 _ ho => u.get ho (by omega)
theorem Marks.mono {m0 m1 m2 : Nat} {h : Heap} {d : List Deferred} (M : Marks m0 m1 h d) (hm : m1 ≤ m2) : Marks m0 m2 h d := by
  obtain ⟨rs, h1, h2, h3⟩ := M
  exact ⟨rs, h1, h2, fun r hr => ⟨(h3 r hr).1, Nat.lt_of_lt_of_le (h3 r hr).2.1 hm, (h3 r hr).2.2⟩⟩
theorem Marks.cons {m0 m1 m2 r : Nat} {h : Heap} {d : List Deferred} (M : Marks m0 m1 h d) (hr : h[r]? = some (.deferred (some []))) (h0 : m0 ≤ r) (h1 : m1 ≤ r) (h2 : r < m2) : Marks m0 m2 h (mkD r :: d) := by
  obtain ⟨rs, h3, h4, h5⟩ := M
  refine ⟨r :: rs, by rw [h3]; rfl, List.nodup_cons.2 ⟨fun hm => ?_, h4⟩, fun q hq => ?_⟩
  · have := (h5 r hm).2.1; omega
  · rcases List.mem_cons.1 hq with rfl | hq
    · exact ⟨h0, h2, hr⟩
    · have := h5 q hq; exact ⟨this.1, by omega, this.2.2⟩
theorem fin_marks {rs : List ResultVar} {K : Value → Heap → Prop} {e : Env} {m0 m1 : Nat} {h : Heap} {d : List Deferred} (M : Marks m0 m1 h d)
    (H : ∀ h', h'.size = h.size → (∀ b, (b < m0 ∨ m1 ≤ b) → h'[b]? = h[b]?) → resA P rs e [] K h') : finW P rs e d h K := by
  obtain ⟨ls, rfl, hnd, hls⟩ := M
  unfold finW
  have key : ∀ (ls : List Nat) (h : Heap), ls.Nodup → (∀ r ∈ ls, m0 ≤ r ∧ r < m1 ∧ h[r]? = some (.deferred (some []))) → Marked h (ls.map mkD) ∧ (unmark h (ls.map mkD)).size = h.size ∧ ∀ b, (b < m0 ∨ m1 ≤ b) → (unmark h (ls.map mkD))[b]? = h[b]? := by
    intro ls
    induction ls with
    | nil => intro h _ _; exact ⟨trivial, rfl, fun _ _ => rfl⟩
    | cons r ls ih =>
      intro h hnd hls
      have hr := hls r List.mem_cons_self
      have h2 := List.nodup_cons.1 hnd
      have := ih (h.setIfInBounds r (.deferred none)) h2.2 (fun q hq => by
        have h3 := hls q (List.mem_cons_of_mem _ hq)
        exact ⟨h3.1, h3.2.1, by
          have hne : r ≠ q := fun he => h2.1 (by rw [he]; exact hq)
          rw [Array.getElem?_setIfInBounds_ne hne]; exact h3.2.2⟩)
      refine ⟨⟨r, rfl, hr.2.2, this.1⟩, ?_, fun b hb => ?_⟩
      · show (unmark (h.setIfInBounds r (.deferred none)) (ls.map mkD)).size = _
        rw [this.2.1]; simp
      · show (unmark (h.setIfInBounds r (.deferred none)) (ls.map mkD))[b]? = _
        rw [this.2.2 b hb, Array.getElem?_setIfInBounds_ne (by omega)]
  have := key ls h hnd hls
  exact ⟨this.1, H _ this.2.1 this.2.2⟩
end loopd
end Go.Eng
