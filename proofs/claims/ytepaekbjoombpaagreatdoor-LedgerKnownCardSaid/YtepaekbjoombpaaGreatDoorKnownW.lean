/- LedgerKnown returns true: its run; Works is known. No condition: the function has no input. -/
import Derived.Test.YtepaekbjoombpaaGreatDoorWork
namespace Go.Proofs.YtepaekbjoombpaaGreatDoor
open Go Go.Proofs Go.Run Go.Eng
noncomputable def kx (f : Nat) : X := match f with | 18 => .tru | f => Pt.ext f
noncomputable def kp : Pr := { Pt.pr with ext := kx }
theorem kxs : ∀ g, ExtQ Tryz.prog g (kx g) := by
  intro g
  unfold kx
  split
  · exact works18
  · exact Pt.xs _
theorem kok : Ok Tryz.prog kp := Pt.ok.more kxs
theorem klb : LibOk Tryz.prog kp := lib_none fun _ => rfl
theorem says14 : says kp 1000000 14 = true := by kernel_rfl
theorem known14 (h : Eng.Heap) : CallsH Tryz.prog 14 #[] h (fun v h' => v = .bool true ∧ Ext h h') := says_run kok klb says14 h
end Go.Proofs.YtepaekbjoombpaaGreatDoor
