/- Books that are valid; days that are right. -/
import Derived.Test.YtepaekbjoombpaaGreatDoorA5
namespace Go.Proofs.YtepaekbjoombpaaGreatDoor
open Go Go.Proofs Go.Eng Tab
theorem chk_ok {acc cl : Int} {es : List En} (H : chk acc cl es = 0) : (2 ≤ acc ∧ acc ≤ 8) ∧ es.length ≤ 20 ∧ (0 ≤ cl ∧ cl ≤ 30) ∧ (∀ e ∈ es, okE acc e) ∧ sortedE es ∧ ∀ e ∈ es, e.f ≠ e.t := by
  unfold chk at H
  split at H
  · omega
  split at H
  · omega
  split at H
  · omega
  rename_i h1 h2 h3
  rw [not_or] at h1 h2 h3
  refine ⟨Classical.not_not.1 h1.1, by omega, Classical.not_not.1 h2.1, Classical.not_not.1 h2.2, Classical.not_not.1 h3.1, fun e he hh => h3.2 ⟨e, he, hh⟩⟩
theorem opn_ok {acc cl : Int} {es : List En} {days : List Int} (H : opn acc cl es days = 0) : chk acc cl es = 0 ∧ inB 0 30 days = true := by
  unfold opn at H
  split at H
  · rename_i h; exact absurd H h
  split at H
  · rename_i h1 h2; exact ⟨Classical.not_not.1 h1, h2⟩
  · omega
theorem eltP_zero {a : Option Addr} : eltP a 0 = a := by cases a <;> simp [eltP, addA]
end Go.Proofs.YtepaekbjoombpaaGreatDoor
