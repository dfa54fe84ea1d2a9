/- MouldLists returns true. Whatever the input: no condition. -/
import Derived.Test.YtmgkeeefbfefgaaRows
import Derived.Test.YtmgkeeefbfefgaaPEQM46
import Derived.Test.YtmgkeeefbfefgaaPE12
import Derived.ProofKit
import Derived.OpenShut
namespace Go.Proofs.Ytmgkeeefbfefgaa.mouldLists
open Go Go.Proofs Go.ChangeShapes Go.WideShapes Go.ChangeAt Go.RowKit Go.Run
set_option maxRecDepth 100000

theorem own : ownKnob Try.prog.godebug = none := by kernel_rfl
theorem laidOut : laidOutB Try.prog = true := by kernel_rfl
theorem lifted (os : Os) (started : os.Started) (H : Type) (enc : TypeId × Value → H) :
    ReturnsInHanded {} Try.checked os 4 .any (Rows.mouldListsSpec.pre6 enc Try.prog Try.f4 Rows.mouldListsRow.domain false) (Rows.mouldListsSpec.post enc Try.prog Try.f4 false true false false) := by
  refine returnsInHanded_of_change (C := Try.checked) own started (by kernel_rfl) Try.func4
    (ChangeSpec.witness6 (enc := enc) (C := Try.checked) false ⟨#[], #[.agg #[.int .i64 0, .int .i64 0, .slice none 0 0], .slice none 0 0, .slice none 0 0, .slice none 0 0], []⟩ 8 (by kernel_rfl) (by kernel_rfl) (by kernel_rfl) (by kernel_rfl)) ?_
  intro W base args ds gs before hval0 hW hcnd _
  have hval : ∀ (j : Nat) t v, Try.f4.params[j]? = some t → args[j]? = some v → Value.okWide Try.prog W .any base t v := hval0
  have hW' := hW
  obtain ⟨p, q, hA0, hV, rfl, hfz, hnd⟩ := hW
  have hA : DataW.TrodAll enc Try.prog W 0 (fun _ => true) true Try.f4.params.toList args.toList ds p := hA0
  have hA1 := hA
  have hlt : ∀ y ∈ p, y.block < W.heap.size := fun y hy => hW'.lt y (by simp [hy])
  rw [Try.params4] at hA hval
  obtain ⟨v0, v1, v2, v3, d0, d1, d2, d3, p0, p1, p2, p3, rfl, rfl, rfl, h0, h1, h2, h3⟩ := trodAll_four hA
  obtain ⟨rfl, rfl⟩ := trodVars_none hV
  obtain ⟨s0, u0, a0, m0, c0, ws0, rfl, R0, hn0⟩ := open_book (hval 0 24 _ rfl rfl) h0
  obtain ⟨a1, m1, c1, xs1, rfl, I1, hc1, hm1, w1⟩ := Go.Eng.open_slice Try.underlying25 Try.underlying3 (by kernel_rfl) (hval 1 25 _ rfl rfl) h1
  obtain ⟨a2, m2, c2, xs2, rfl, I2, hc2, hm2, w2⟩ := Go.Eng.open_slice Try.underlying25 Try.underlying3 (by kernel_rfl) (hval 2 25 _ rfl rfl) h2
  obtain ⟨a3, m3, c3, xs3, rfl, I3, hc3, hm3, w3⟩ := Go.Eng.open_slice Try.underlying25 Try.underlying3 (by kernel_rfl) (hval 3 25 _ rfl rfl) h3
  clear hA0 hval0
  simp only [List.append_nil] at hW' hA1 hlt
  refine (Go.Eng.calls_ext (lists4 s0 u0 a0 m0 c0 ws0 a1 m1 c1 xs1 a2 m2 c2 xs2 a3 m3 c3 xs3 W.heap R0 hn0 I1 hc1 I2 hc2 I3 hc3)).mono fun e W' ⟨he, hx, hr⟩ => ?_
  subst he
  exact ⟨_, rfl, post_kept (pv := []) hW' (fun _ _ _ => (trodAll_cons_mk (shut_bool Try.underlying4 _) trodAll_mk0)) (fun sp hs => Go.Eng.trodAll_ext laidOut hx (by kernel_rfl) hA1 hlt hs) (fun _ _ => rfl) (by simp) (Go.Run.kept_of hx hr)⟩
theorem over : Rows.mouldListsRow.holds Try.pinned (OpenSpec.ofChange Rows.mouldListsSpec) :=
  OpenClaim.holds_of_wide 4 Try.f4 rfl rfl rfl rfl rfl rfl rfl ⟨rfl, rfl, rfl, rfl, rfl⟩ rfl rfl rfl rfl rfl (by kernel_rfl) Try.func4 (by kernel_rfl)
    (of_decide_eq_true (by kernel_rfl)) (by unfold Func.isWrapper; first | (rw [if_pos (by decide +kernel)]; kernel_rfl) | (rw [if_neg (by decide +kernel)]; exact ⟨rfl, rfl⟩))
    (fun os started H enc _ => lifted os started H enc)
/-- THE STATEMENT. -/
theorem proved : Rows.MouldListsSaid := over
#print axioms proved
end Go.Proofs.Ytmgkeeefbfefgaa.mouldLists
