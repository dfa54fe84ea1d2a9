/- newRound: of each number of shops by the evaluator. -/
import Derived.Test.YtoediaepoddonaaOk
import Derived.Test.YtoediaepoddonaaTab
namespace Go.Proofs.Ytoediaepoddonaa
open Go Go.Proofs Go.Eng Go.Run
set_option maxRecDepth 100000
set_option linter.unusedSimpArgs false
set_option linter.unusedVariables false
/-- The cells of a round. -/
def rcells (n : Int) (gone : List Int) (at' : Int) : List Value := .int .i64 n :: ((ints gone) ++ [.int .i64 at'])
noncomputable def rS : Res (T × S) → S | .ok (_, s) => s | _ => s0
theorem run52 : ∀ n : Nat, 1 ≤ n → n ≤ 12 → ∃ s, run Pt.pr 1000 52 [.int .i64 n] s0 = .ok (.ptr 0 0, s) ∧ s.at 0 = some (.row (.int .i64 n :: List.replicate 13 (.int .i64 0)) 105 false) := by
  intro n h1 h2
  have : n = 1 ∨ n = 2 ∨ n = 3 ∨ n = 4 ∨ n = 5 ∨ n = 6 ∨ n = 7 ∨ n = 8 ∨ n = 9 ∨ n = 10 ∨ n = 11 ∨ n = 12 := by omega
  rcases this with rfl | rfl | rfl | rfl | rfl | rfl | rfl | rfl | rfl | rfl | rfl | rfl
  · exact ⟨rS (run Pt.pr 1000 52 [.int .i64 1] s0), by kernel_rfl, by kernel_rfl⟩
  · exact ⟨rS (run Pt.pr 1000 52 [.int .i64 2] s0), by kernel_rfl, by kernel_rfl⟩
  · exact ⟨rS (run Pt.pr 1000 52 [.int .i64 3] s0), by kernel_rfl, by kernel_rfl⟩
  · exact ⟨rS (run Pt.pr 1000 52 [.int .i64 4] s0), by kernel_rfl, by kernel_rfl⟩
  · exact ⟨rS (run Pt.pr 1000 52 [.int .i64 5] s0), by kernel_rfl, by kernel_rfl⟩
  · exact ⟨rS (run Pt.pr 1000 52 [.int .i64 6] s0), by kernel_rfl, by kernel_rfl⟩
  · exact ⟨rS (run Pt.pr 1000 52 [.int .i64 7] s0), by kernel_rfl, by kernel_rfl⟩
  · exact ⟨rS (run Pt.pr 1000 52 [.int .i64 8] s0), by kernel_rfl, by kernel_rfl⟩
  · exact ⟨rS (run Pt.pr 1000 52 [.int .i64 9] s0), by kernel_rfl, by kernel_rfl⟩
  · exact ⟨rS (run Pt.pr 1000 52 [.int .i64 10] s0), by kernel_rfl, by kernel_rfl⟩
  · exact ⟨rS (run Pt.pr 1000 52 [.int .i64 11] s0), by kernel_rfl, by kernel_rfl⟩
  · exact ⟨rS (run Pt.pr 1000 52 [.int .i64 12] s0), by kernel_rfl, by kernel_rfl⟩
theorem newRound52 (n : Nat) (h1 : 1 ≤ n) (h2 : n ≤ 12) (h : Eng.Heap) :
    CallsH Try.prog 52 #[.int .i64 n] h (fun v h' => ∃ b, v = .pointer (some ⟨b, 0, none⟩) ∧ h'[b]? = some (.cells (rcells n (List.replicate 12 0) 0).toArray 105) ∧ h.size ≤ b ∧ Ext h h') := by
  obtain ⟨s, q1, q2⟩ := run52 n h1 h2
  have := fn_sound Pt.ok (run_sound Pt.ok Pt.lb 1000) (us := [.int .i64 n]) q1 ⟨_, [], rfl, rfl, rfl⟩ (Sim.zero h)
  refine this.mono ?_
  rintro v h' ⟨ι', g1, g2, g3⟩
  obtain ⟨x, ob, k1, k2, cur, rfl, k4, k5, k6, _⟩ := g2.obj 0 _ q2
  simp only [VR] at g3
  obtain ⟨y, k7, rfl⟩ := g3
  rw [k1] at k7
  cases k7
  have hs := k6 rfl
  have hold : Ext h h' := ⟨g1.size, fun r hr => g1.old r hr fun b x hx => by cases hx⟩
  have hnew : h.size ≤ x.r := by
    rcases g1.grow 0 x k1 with g | ⟨_, g | ⟨c, y, g, _⟩⟩
    · cases g
    · exact g
    · cases g
  refine ⟨x.r, rfl, ?_, hnew, hold⟩
  rw [k2]
  congr 2
  apply Array.toList_inj.1
  rw [← hs, ← Array.length_toList, List.take_length] at k5
  generalize cur.toList = l at *
  simp only [List.replicate, VL, VR] at k5
  obtain ⟨_, l, rfl, rfl, _, l, rfl, rfl, _, l, rfl, rfl, _, l, rfl, rfl, _, l, rfl, rfl, _, l, rfl, rfl, _, l, rfl, rfl, _, l, rfl, rfl, _, l, rfl, rfl, _, l, rfl, rfl, _, l, rfl, rfl, _, l, rfl, rfl, _, l, rfl, rfl, _, l, rfl, rfl, rfl⟩ := k5
  rfl
end Go.Proofs.Ytoediaepoddonaa
