/- MouldKnown returns true: its run; Works is known. No condition: the function has no input. -/
import Derived.Test.YtmgkeeefbfefgaaWork
namespace Go.Proofs.Ytmgkeeefbfefgaa
open Go Go.Proofs Go.Run Go.Eng
noncomputable def kx (f : Nat) : X := match f with | 17 => .tru | f => Pt.ext f
noncomputable def kp : Pr := { Pt.pr with ext := kx }
theorem kxs : ∀ g, ExtQ Try.prog g (kx g) := by
  intro g
  unfold kx
  split
  · exact works17
  · exact Pt.xs _
theorem kok : Ok Try.prog kp := Pt.ok.more kxs
theorem klb : LibOk Try.prog kp := lib_none fun _ => rfl
theorem says14 : says kp 1000000 14 = true := by kernel_rfl
theorem known14 (h : Eng.Heap) : CallsH Try.prog 14 #[] h (fun v h' => v = .bool true ∧ Ext h h') := says_run kok klb says14 h
end Go.Proofs.Ytmgkeeefbfefgaa
