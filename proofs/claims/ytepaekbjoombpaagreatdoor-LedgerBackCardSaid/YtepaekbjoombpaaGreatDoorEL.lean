/- Books with one more entry: balances; an entry taken back: the plain law. -/
import Derived.Test.YtepaekbjoombpaaGreatDoorDL
import Derived.Test.YtepaekbjoombpaaGreatDoorC4a
import Derived.Test.YtepaekbjoombpaaGreatDoorB2
namespace Go.Proofs.YtepaekbjoombpaaGreatDoor
open Go Go.Proofs Go.Eng Go.Run Tab
set_option maxRecDepth 100000
set_option linter.unusedSimpArgs false
set_option linter.unusedVariables false
/-- The book that is left. -/
noncomputable def pstX (acc cl : Int) (es : List En) (e : En) : List En := if pst acc cl es e = 0 then ins es e else es
theorem balsR_ok {acc cl : Int} {es : List En} {day : Int} (h : chk acc cl es = 0) (hd : 0 ≤ day ∧ day ≤ 30) : balsR acc cl es day = bals acc.toNat es day := by
  rw [balsR, if_pos (opn_of h hd)]
theorem chk_pstX {acc cl : Int} {es : List En} {e : En} (hc : chk acc cl es = 0) : chk acc cl (pstX acc cl es e) = 0 := by
  unfold pstX
  split
  · rename_i h; exact chk_ins h
  · exact hc
theorem balA_pstX (acc cl : Int) (es : List En) (e : En) (day i : Int) : balA (pstX acc cl es e) day i = balA es day i + if pst acc cl es e = 0 then amt day i e else 0 := by
  unfold pstX
  split
  · exact balA_ins es e day i
  · omega
theorem pstX_length (acc cl : Int) (es : List En) (e : En) : (pstX acc cl es e).length ≤ es.length + 1 := by
  unfold pstX; split
  · rw [ins_length]; omega
  · omega
theorem pst_X {acc cl : Int} {es : List En} {e f : En} (hc : chk acc cl es = 0) (hl : es.length ≤ 18) : pst acc cl (pstX acc cl es e) f = 0 ↔ pst acc cl es f = 0 := by
  have hx := chk_pstX (e := e) hc
  have := pstX_length acc cl es e
  rw [pst_iff, pst_iff]
  constructor
  · rintro ⟨_, h2, h3, h4, _⟩; exact ⟨hc, h2, h3, h4, by omega⟩
  · rintro ⟨_, h2, h3, h4, _⟩; exact ⟨hx, h2, h3, h4, by omega⟩
theorem pstX_comm {acc cl : Int} {es : List En} {e f : En} (hc : chk acc cl es = 0) (hl : es.length ≤ 18) (hd : e.d ≠ f.d) : pstX acc cl (pstX acc cl es e) f = pstX acc cl (pstX acc cl es f) e := by
  have h1 := pst_X (e := e) (f := f) hc hl
  have h2 := pst_X (e := f) (f := e) hc hl
  by_cases he : pst acc cl es e = 0 <;> by_cases hf : pst acc cl es f = 0
  · rw [pstX, if_pos (h1.2 hf), pstX, if_pos he, pstX, if_pos (h2.2 he), pstX, if_pos hf]
    exact ins_comm hd es
  · rw [pstX, if_neg (fun h => hf (h1.1 h)), pstX, if_pos he, pstX, if_pos (h2.2 he), pstX, if_neg hf]
  · rw [pstX, if_pos (h1.2 hf), pstX, if_neg he, pstX, if_neg (fun h => he (h2.1 h)), pstX, if_pos hf]
  · rw [pstX, if_neg (fun h => hf (h1.1 h)), pstX, if_neg he, pstX, if_neg (fun h => he (h2.1 h)), pstX, if_neg hf]
theorem bals_pstX {acc cl : Int} {es : List En} {e : En} {day : Int} (k : Nat) (hd : day ≤ cl) : bals k (pstX acc cl es e) day = bals k es day := by
  unfold bals
  refine List.map_congr_left fun i _ => ?_
  rw [balA_pstX]
  split
  · rename_i hp
    have := (pst_iff.1 hp).2.2.2.1
    rw [amt, if_neg (by omega)]; omega
  · omega
theorem bck_ok {acc cl : Int} {es : List En} {i day : Int} (H : bck acc cl es i day = 0) : chk acc cl es = 0 ∧ (0 ≤ i ∧ i < es.length) ∧ (bkX es i).d ≤ day ∧ pst acc cl es (bkE es i day) = 0 ∧ bckA acc cl es i day = acc ∧ bckC acc cl es i day = cl ∧ bckL acc cl es i day = pstX acc cl es (bkE es i day) := by
  have h1 := H
  unfold bck at H
  split at H
  · rename_i h; exact absurd H h
  split at H
  · omega
  split at H
  · omega
  rename_i h2 h3 h4
  exact ⟨Classical.not_not.1 h2, Classical.not_not.1 h3, by omega, H, by rw [bckA, if_pos h1], by rw [bckC, if_pos h1], by rw [bckL, if_pos h1, pstX, if_pos H]⟩
end Go.Proofs.YtepaekbjoombpaaGreatDoor
