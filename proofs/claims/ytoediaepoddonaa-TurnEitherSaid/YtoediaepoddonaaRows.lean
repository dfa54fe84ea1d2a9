/-
  No cell of these rows narrows 'for every input' (looked for: loops, veiled, ifaces, maps, wideKeys, modest, calm, conditions, laid).
  DERIVED. THE GIVEN ROWS OF THIS SEAT. 14 by the template 'for every input the law returns true; each argument reads behind the call as it read before'; 0 by the template 'total and deterministic' (their statements: YtoediaepoddonaaTotals.lean).
  GIVEN WITH THE SEED: the statements are not yours to turn. If you find one false, say at which input.
  Laid BY PROGRAM, IN A SANDBOX (cutbox-rows.mjs): the forced cells as the released guide's own fill.sh prints them over the translation abf2661b38a6248f… (all of the seat's roots in one cut). By AI agents, Wed Nov 11 2026. No macro, syntax, notation, axiom, sorry.
-/
import Derived.Test.YtoediaepoddonaaChecked
import GoSem.Claim
import GoSem.ClaimJoined
import GoSem.ClaimMapViews
import Derived.JoinedTies
import Derived.KernelRfl
namespace Go.Proofs.Ytoediaepoddonaa
/- THE CELL 'sum', in the pinned program and in every row, IS THE sha256 OF THE DUMP (.gsa) THAT YtoediaepoddonaaProg.lean LOADS. Nothing in Lean hashes anything: it is a label: what it is worth is what the hold of that sum in a sandbox is worth. -/
noncomputable def Try.pinned : Pinned := { name := "ytoediaepoddonaa", sum := "abf2661b38a6248f72197b20309a10f8e69deb789181836e5cad6b50247fc2a4", checked := Try.checked }
namespace Rows
def none {H : Type} : Left H := { results := [], args := [] }

/-- 'porringerlaw09.TurnOrders': WHATEVER THE INPUT: true; the input reads as it did. -/
def turnOrdersSpec : ChangeSpec := { name := "turnOrders", fn := fun _ => fun
  | [d1, d2, d3] => { results := [.lit (.bool true)], args := [d1, d2, d3] }
  | _ => none }
def turnOrdersRow : OpenClaim := { program := "ytoediaepoddonaa", sum := "abf2661b38a6248f72197b20309a10f8e69deb789181836e5cad6b50247fc2a4", func := "porringer/porringerlaw09.TurnOrders", spec := "turnOrders", unfollowed := true, recurses := true, plainKeys := false, apart := false }
def TurnOrdersSaid : Prop := turnOrdersRow.holds Try.pinned (OpenSpec.ofChange turnOrdersSpec)

/-- ITS FALSE NEIGHBOUR: 'it returns false'. Refute it at one input. -/
def turnOrdersWrong : ChangeSpec := { name := "turnOrders", fn := fun _ => fun
  | [d1, d2, d3] => { results := [.lit (.bool false)], args := [d1, d2, d3] }
  | _ => none }
def TurnOrdersWrongFalsely : Prop := turnOrdersRow.holds Try.pinned (OpenSpec.ofChange turnOrdersWrong)

/-- 'porringerlaw09.TurnRounds': WHATEVER THE INPUT: true; the input reads as it did. -/
def turnRoundsSpec : ChangeSpec := { name := "turnRounds", fn := fun _ => fun
  | [d1, d2, d3] => { results := [.lit (.bool true)], args := [d1, d2, d3] }
  | _ => none }
def turnRoundsRow : OpenClaim := { program := "ytoediaepoddonaa", sum := "abf2661b38a6248f72197b20309a10f8e69deb789181836e5cad6b50247fc2a4", func := "porringer/porringerlaw09.TurnRounds", spec := "turnRounds", unfollowed := true, recurses := true, plainKeys := false, apart := false }
def TurnRoundsSaid : Prop := turnRoundsRow.holds Try.pinned (OpenSpec.ofChange turnRoundsSpec)

/-- ITS FALSE NEIGHBOUR: 'it returns false'. Refute it at one input. -/
def turnRoundsWrong : ChangeSpec := { name := "turnRounds", fn := fun _ => fun
  | [d1, d2, d3] => { results := [.lit (.bool false)], args := [d1, d2, d3] }
  | _ => none }
def TurnRoundsWrongFalsely : Prop := turnRoundsRow.holds Try.pinned (OpenSpec.ofChange turnRoundsWrong)

/-- 'porringerlaw09.TurnFinds': WHATEVER THE INPUT: true; the input reads as it did. -/
def turnFindsSpec : ChangeSpec := { name := "turnFinds", fn := fun _ => fun
  | [d1, d2, d3, d4] => { results := [.lit (.bool true)], args := [d1, d2, d3, d4] }
  | _ => none }
def turnFindsRow : OpenClaim := { program := "ytoediaepoddonaa", sum := "abf2661b38a6248f72197b20309a10f8e69deb789181836e5cad6b50247fc2a4", func := "porringer/porringerlaw09.TurnFinds", spec := "turnFinds", unfollowed := true, recurses := true, plainKeys := false, apart := false }
def TurnFindsSaid : Prop := turnFindsRow.holds Try.pinned (OpenSpec.ofChange turnFindsSpec)

/-- ITS FALSE NEIGHBOUR: 'it returns false'. Refute it at one input. -/
def turnFindsWrong : ChangeSpec := { name := "turnFinds", fn := fun _ => fun
  | [d1, d2, d3, d4] => { results := [.lit (.bool false)], args := [d1, d2, d3, d4] }
  | _ => none }
def TurnFindsWrongFalsely : Prop := turnFindsRow.holds Try.pinned (OpenSpec.ofChange turnFindsWrong)

/-- 'porringerlaw09.TurnNumbers': WHATEVER THE INPUT: true; the input reads as it did. -/
def turnNumbersSpec : ChangeSpec := { name := "turnNumbers", fn := fun _ => fun
  | [d1, d2, d3, d4] => { results := [.lit (.bool true)], args := [d1, d2, d3, d4] }
  | _ => none }
def turnNumbersRow : OpenClaim := { program := "ytoediaepoddonaa", sum := "abf2661b38a6248f72197b20309a10f8e69deb789181836e5cad6b50247fc2a4", func := "porringer/porringerlaw09.TurnNumbers", spec := "turnNumbers", unfollowed := true, recurses := true, plainKeys := false, apart := false }
def TurnNumbersSaid : Prop := turnNumbersRow.holds Try.pinned (OpenSpec.ofChange turnNumbersSpec)

/-- ITS FALSE NEIGHBOUR: 'it returns false'. Refute it at one input. -/
def turnNumbersWrong : ChangeSpec := { name := "turnNumbers", fn := fun _ => fun
  | [d1, d2, d3, d4] => { results := [.lit (.bool false)], args := [d1, d2, d3, d4] }
  | _ => none }
def TurnNumbersWrongFalsely : Prop := turnNumbersRow.holds Try.pinned (OpenSpec.ofChange turnNumbersWrong)

/-- 'porringerlaw09.TurnEither': WHATEVER THE INPUT: true; the input reads as it did. -/
def turnEitherSpec : ChangeSpec := { name := "turnEither", fn := fun _ => fun
  | [d1, d2, d3, d4, d5, d6, d7] => { results := [.lit (.bool true)], args := [d1, d2, d3, d4, d5, d6, d7] }
  | _ => none }
def turnEitherRow : OpenClaim := { program := "ytoediaepoddonaa", sum := "abf2661b38a6248f72197b20309a10f8e69deb789181836e5cad6b50247fc2a4", func := "porringer/porringerlaw09.TurnEither", spec := "turnEither", unfollowed := true, recurses := true, plainKeys := false, apart := false }
def TurnEitherSaid : Prop := turnEitherRow.holds Try.pinned (OpenSpec.ofChange turnEitherSpec)

/-- ITS FALSE NEIGHBOUR: 'it returns false'. Refute it at one input. -/
def turnEitherWrong : ChangeSpec := { name := "turnEither", fn := fun _ => fun
  | [d1, d2, d3, d4, d5, d6, d7] => { results := [.lit (.bool false)], args := [d1, d2, d3, d4, d5, d6, d7] }
  | _ => none }
def TurnEitherWrongFalsely : Prop := turnEitherRow.holds Try.pinned (OpenSpec.ofChange turnEitherWrong)

/-- 'porringerlaw09.TurnPeriods': WHATEVER THE INPUT: true; the input reads as it did. -/
def turnPeriodsSpec : ChangeSpec := { name := "turnPeriods", fn := fun _ => fun
  | [d1, d2, d3] => { results := [.lit (.bool true)], args := [d1, d2, d3] }
  | _ => none }
def turnPeriodsRow : OpenClaim := { program := "ytoediaepoddonaa", sum := "abf2661b38a6248f72197b20309a10f8e69deb789181836e5cad6b50247fc2a4", func := "porringer/porringerlaw09.TurnPeriods", spec := "turnPeriods", unfollowed := true, recurses := true, plainKeys := false, apart := false }
def TurnPeriodsSaid : Prop := turnPeriodsRow.holds Try.pinned (OpenSpec.ofChange turnPeriodsSpec)

/-- ITS FALSE NEIGHBOUR: 'it returns false'. Refute it at one input. -/
def turnPeriodsWrong : ChangeSpec := { name := "turnPeriods", fn := fun _ => fun
  | [d1, d2, d3] => { results := [.lit (.bool false)], args := [d1, d2, d3] }
  | _ => none }
def TurnPeriodsWrongFalsely : Prop := turnPeriodsRow.holds Try.pinned (OpenSpec.ofChange turnPeriodsWrong)

/-- 'porringerlaw09.TurnCodes': WHATEVER THE INPUT: true; the input reads as it did. -/
def turnCodesSpec : ChangeSpec := { name := "turnCodes", fn := fun _ => fun
  | [d1, d2, d3] => { results := [.lit (.bool true)], args := [d1, d2, d3] }
  | _ => none }
def turnCodesRow : OpenClaim := { program := "ytoediaepoddonaa", sum := "abf2661b38a6248f72197b20309a10f8e69deb789181836e5cad6b50247fc2a4", func := "porringer/porringerlaw09.TurnCodes", spec := "turnCodes", unfollowed := true, recurses := true, plainKeys := false, apart := false }
def TurnCodesSaid : Prop := turnCodesRow.holds Try.pinned (OpenSpec.ofChange turnCodesSpec)

/-- ITS FALSE NEIGHBOUR: 'it returns false'. Refute it at one input. -/
def turnCodesWrong : ChangeSpec := { name := "turnCodes", fn := fun _ => fun
  | [d1, d2, d3] => { results := [.lit (.bool false)], args := [d1, d2, d3] }
  | _ => none }
def TurnCodesWrongFalsely : Prop := turnCodesRow.holds Try.pinned (OpenSpec.ofChange turnCodesWrong)

/-- 'porringerlaw09.TurnLast': WHATEVER THE INPUT: true; the input reads as it did. -/
def turnLastSpec : ChangeSpec := { name := "turnLast", fn := fun _ => fun
  | [d1, d2, d3] => { results := [.lit (.bool true)], args := [d1, d2, d3] }
  | _ => none }
def turnLastRow : OpenClaim := { program := "ytoediaepoddonaa", sum := "abf2661b38a6248f72197b20309a10f8e69deb789181836e5cad6b50247fc2a4", func := "porringer/porringerlaw09.TurnLast", spec := "turnLast", unfollowed := true, recurses := true, plainKeys := false, apart := false }
def TurnLastSaid : Prop := turnLastRow.holds Try.pinned (OpenSpec.ofChange turnLastSpec)

/-- ITS FALSE NEIGHBOUR: 'it returns false'. Refute it at one input. -/
def turnLastWrong : ChangeSpec := { name := "turnLast", fn := fun _ => fun
  | [d1, d2, d3] => { results := [.lit (.bool false)], args := [d1, d2, d3] }
  | _ => none }
def TurnLastWrongFalsely : Prop := turnLastRow.holds Try.pinned (OpenSpec.ofChange turnLastWrong)

/-- 'porringerlaw09.TurnNumbered': WHATEVER THE INPUT: true; the input reads as it did. -/
def turnNumberedSpec : ChangeSpec := { name := "turnNumbered", fn := fun _ => fun
  | [d1, d2, d3] => { results := [.lit (.bool true)], args := [d1, d2, d3] }
  | _ => none }
def turnNumberedRow : OpenClaim := { program := "ytoediaepoddonaa", sum := "abf2661b38a6248f72197b20309a10f8e69deb789181836e5cad6b50247fc2a4", func := "porringer/porringerlaw09.TurnNumbered", spec := "turnNumbered", unfollowed := true, recurses := true, plainKeys := false, apart := false }
def TurnNumberedSaid : Prop := turnNumberedRow.holds Try.pinned (OpenSpec.ofChange turnNumberedSpec)

/-- ITS FALSE NEIGHBOUR: 'it returns false'. Refute it at one input. -/
def turnNumberedWrong : ChangeSpec := { name := "turnNumbered", fn := fun _ => fun
  | [d1, d2, d3] => { results := [.lit (.bool false)], args := [d1, d2, d3] }
  | _ => none }
def TurnNumberedWrongFalsely : Prop := turnNumberedRow.holds Try.pinned (OpenSpec.ofChange turnNumberedWrong)

/-- 'porringerlaw09.TurnMore': WHATEVER THE INPUT: true; the input reads as it did. -/
def turnMoreSpec : ChangeSpec := { name := "turnMore", fn := fun _ => fun
  | [d1, d2, d3, d4] => { results := [.lit (.bool true)], args := [d1, d2, d3, d4] }
  | _ => none }
def turnMoreRow : OpenClaim := { program := "ytoediaepoddonaa", sum := "abf2661b38a6248f72197b20309a10f8e69deb789181836e5cad6b50247fc2a4", func := "porringer/porringerlaw09.TurnMore", spec := "turnMore", unfollowed := true, recurses := true, plainKeys := false, apart := false }
def TurnMoreSaid : Prop := turnMoreRow.holds Try.pinned (OpenSpec.ofChange turnMoreSpec)

/-- ITS FALSE NEIGHBOUR: 'it returns false'. Refute it at one input. -/
def turnMoreWrong : ChangeSpec := { name := "turnMore", fn := fun _ => fun
  | [d1, d2, d3, d4] => { results := [.lit (.bool false)], args := [d1, d2, d3, d4] }
  | _ => none }
def TurnMoreWrongFalsely : Prop := turnMoreRow.holds Try.pinned (OpenSpec.ofChange turnMoreWrong)

/-- 'porringerlaw09.TurnWished': WHATEVER THE INPUT: true; the input reads as it did. -/
def turnWishedSpec : ChangeSpec := { name := "turnWished", fn := fun _ => fun
  | [d1, d2, d3] => { results := [.lit (.bool true)], args := [d1, d2, d3] }
  | _ => none }
def turnWishedRow : OpenClaim := { program := "ytoediaepoddonaa", sum := "abf2661b38a6248f72197b20309a10f8e69deb789181836e5cad6b50247fc2a4", func := "porringer/porringerlaw09.TurnWished", spec := "turnWished", unfollowed := true, recurses := true, plainKeys := false, apart := false }
def TurnWishedSaid : Prop := turnWishedRow.holds Try.pinned (OpenSpec.ofChange turnWishedSpec)

/-- ITS FALSE NEIGHBOUR: 'it returns false'. Refute it at one input. -/
def turnWishedWrong : ChangeSpec := { name := "turnWished", fn := fun _ => fun
  | [d1, d2, d3] => { results := [.lit (.bool false)], args := [d1, d2, d3] }
  | _ => none }
def TurnWishedWrongFalsely : Prop := turnWishedRow.holds Try.pinned (OpenSpec.ofChange turnWishedWrong)

/-- 'porringerlaw09.TurnTurned': WHATEVER THE INPUT: true; the input reads as it did. -/
def turnTurnedSpec : ChangeSpec := { name := "turnTurned", fn := fun _ => fun
  | [d1, d2] => { results := [.lit (.bool true)], args := [d1, d2] }
  | _ => none }
def turnTurnedRow : OpenClaim := { program := "ytoediaepoddonaa", sum := "abf2661b38a6248f72197b20309a10f8e69deb789181836e5cad6b50247fc2a4", func := "porringer/porringerlaw09.TurnTurned", spec := "turnTurned", unfollowed := true, recurses := true, plainKeys := false, apart := false }
def TurnTurnedSaid : Prop := turnTurnedRow.holds Try.pinned (OpenSpec.ofChange turnTurnedSpec)

/-- ITS FALSE NEIGHBOUR: 'it returns false'. Refute it at one input. -/
def turnTurnedWrong : ChangeSpec := { name := "turnTurned", fn := fun _ => fun
  | [d1, d2] => { results := [.lit (.bool false)], args := [d1, d2] }
  | _ => none }
def TurnTurnedWrongFalsely : Prop := turnTurnedRow.holds Try.pinned (OpenSpec.ofChange turnTurnedWrong)

/-- 'porringerlaw09.TurnFirst': WHATEVER THE INPUT: true; the input reads as it did. -/
def turnFirstSpec : ChangeSpec := { name := "turnFirst", fn := fun _ => fun
  | [d1, d2] => { results := [.lit (.bool true)], args := [d1, d2] }
  | _ => none }
def turnFirstRow : OpenClaim := { program := "ytoediaepoddonaa", sum := "abf2661b38a6248f72197b20309a10f8e69deb789181836e5cad6b50247fc2a4", func := "porringer/porringerlaw09.TurnFirst", spec := "turnFirst", unfollowed := true, recurses := true, plainKeys := false, apart := false }
def TurnFirstSaid : Prop := turnFirstRow.holds Try.pinned (OpenSpec.ofChange turnFirstSpec)

/-- ITS FALSE NEIGHBOUR: 'it returns false'. Refute it at one input. -/
def turnFirstWrong : ChangeSpec := { name := "turnFirst", fn := fun _ => fun
  | [d1, d2] => { results := [.lit (.bool false)], args := [d1, d2] }
  | _ => none }
def TurnFirstWrongFalsely : Prop := turnFirstRow.holds Try.pinned (OpenSpec.ofChange turnFirstWrong)

/-- 'porringerlaw09.TurnKnown': WHATEVER THE INPUT: true; the input reads as it did. -/
def turnKnownSpec : ChangeSpec := { name := "turnKnown", fn := fun _ => fun
  | [] => { results := [.lit (.bool true)], args := [] }
  | _ => none }
def turnKnownRow : OpenClaim := { program := "ytoediaepoddonaa", sum := "abf2661b38a6248f72197b20309a10f8e69deb789181836e5cad6b50247fc2a4", func := "porringer/porringerlaw09.TurnKnown", spec := "turnKnown", unfollowed := true, recurses := true, plainKeys := false, apart := false }
def TurnKnownSaid : Prop := turnKnownRow.holds Try.pinned (OpenSpec.ofChange turnKnownSpec)

/-- ITS FALSE NEIGHBOUR: 'it returns false'. Refute it at one input. -/
def turnKnownWrong : ChangeSpec := { name := "turnKnown", fn := fun _ => fun
  | [] => { results := [.lit (.bool false)], args := [] }
  | _ => none }
def TurnKnownWrongFalsely : Prop := turnKnownRow.holds Try.pinned (OpenSpec.ofChange turnKnownWrong)

/- THE SECOND FORM. 'bulk': how many values and letters a reading holds, each counted each time it is reached (what is shared counts as often as it is met; a slice's spare places count too). A statement '..UptoSaid' is the law's where the arguments, and the package variables that the reading takes, are together of bulk at most 1048576: NARROWER than '..Said'. Prove '..Said' where nothing that the law and all that it calls make is longer than what came in: it says more and counts as full. Else prove '..UptoSaid'. A law counts once. -/
mutual
def uptoBulk {H : Type} : DataW H → Nat
  | .lit (.string bytes) => bytes.length + 1
  | .lit _ => 1
  | .nil => 1
  | .ptr d => uptoBulk d + 1
  | .slice elems spare => uptoBulkAll elems + uptoBulkAll spare + 1
  | .agg parts => uptoBulkAll parts + 1
  | .iface _ d => uptoBulk d + 1
  | .map entries => uptoBulkEntries entries + 1
  | .held _ => 1
def uptoBulkAll {H : Type} : List (DataW H) → Nat
  | [] => 0
  | d :: r => uptoBulk d + uptoBulkAll r
def uptoBulkEntries {H : Type} : List (Lit × DataW H) → Nat
  | [] => 0
  | x :: r => uptoBulkEntry x + uptoBulkEntries r
def uptoBulkEntry {H : Type} : Lit × DataW H → Nat
  | (.string bytes, d) => bytes.length + uptoBulk d + 1
  | (_, d) => uptoBulk d + 1
 end
def uptoSmall : (H : Type) → List (DataW H) → Bool := fun _ ds => decide (uptoBulkAll ds ≤ 1048576)
def OpenSpec.upto (s : _root_.Go.ChangeSpec) : _root_.Go.OpenSpec := { _root_.Go.OpenSpec.ofChange s with cond := some uptoSmall }

/-- 'porringerlaw09.TurnOrders', WHERE WHAT IT READS IS OF BULK AT MOST 1048576: true; the input reads as it did. -/
def turnOrdersUptoRow : OpenClaim := { program := "ytoediaepoddonaa", sum := "abf2661b38a6248f72197b20309a10f8e69deb789181836e5cad6b50247fc2a4", func := "porringer/porringerlaw09.TurnOrders", spec := "turnOrders", unfollowed := true, recurses := true, plainKeys := false, apart := false, narrowed := true }
def TurnOrdersUptoSaid : Prop := turnOrdersUptoRow.holds Try.pinned (OpenSpec.upto turnOrdersSpec)

/-- 'porringerlaw09.TurnRounds', WHERE WHAT IT READS IS OF BULK AT MOST 1048576: true; the input reads as it did. -/
def turnRoundsUptoRow : OpenClaim := { program := "ytoediaepoddonaa", sum := "abf2661b38a6248f72197b20309a10f8e69deb789181836e5cad6b50247fc2a4", func := "porringer/porringerlaw09.TurnRounds", spec := "turnRounds", unfollowed := true, recurses := true, plainKeys := false, apart := false, narrowed := true }
def TurnRoundsUptoSaid : Prop := turnRoundsUptoRow.holds Try.pinned (OpenSpec.upto turnRoundsSpec)

/-- 'porringerlaw09.TurnFinds', WHERE WHAT IT READS IS OF BULK AT MOST 1048576: true; the input reads as it did. -/
def turnFindsUptoRow : OpenClaim := { program := "ytoediaepoddonaa", sum := "abf2661b38a6248f72197b20309a10f8e69deb789181836e5cad6b50247fc2a4", func := "porringer/porringerlaw09.TurnFinds", spec := "turnFinds", unfollowed := true, recurses := true, plainKeys := false, apart := false, narrowed := true }
def TurnFindsUptoSaid : Prop := turnFindsUptoRow.holds Try.pinned (OpenSpec.upto turnFindsSpec)

/-- 'porringerlaw09.TurnNumbers', WHERE WHAT IT READS IS OF BULK AT MOST 1048576: true; the input reads as it did. -/
def turnNumbersUptoRow : OpenClaim := { program := "ytoediaepoddonaa", sum := "abf2661b38a6248f72197b20309a10f8e69deb789181836e5cad6b50247fc2a4", func := "porringer/porringerlaw09.TurnNumbers", spec := "turnNumbers", unfollowed := true, recurses := true, plainKeys := false, apart := false, narrowed := true }
def TurnNumbersUptoSaid : Prop := turnNumbersUptoRow.holds Try.pinned (OpenSpec.upto turnNumbersSpec)

/-- 'porringerlaw09.TurnEither', WHERE WHAT IT READS IS OF BULK AT MOST 1048576: true; the input reads as it did. -/
def turnEitherUptoRow : OpenClaim := { program := "ytoediaepoddonaa", sum := "abf2661b38a6248f72197b20309a10f8e69deb789181836e5cad6b50247fc2a4", func := "porringer/porringerlaw09.TurnEither", spec := "turnEither", unfollowed := true, recurses := true, plainKeys := false, apart := false, narrowed := true }
def TurnEitherUptoSaid : Prop := turnEitherUptoRow.holds Try.pinned (OpenSpec.upto turnEitherSpec)

/-- 'porringerlaw09.TurnPeriods', WHERE WHAT IT READS IS OF BULK AT MOST 1048576: true; the input reads as it did. -/
def turnPeriodsUptoRow : OpenClaim := { program := "ytoediaepoddonaa", sum := "abf2661b38a6248f72197b20309a10f8e69deb789181836e5cad6b50247fc2a4", func := "porringer/porringerlaw09.TurnPeriods", spec := "turnPeriods", unfollowed := true, recurses := true, plainKeys := false, apart := false, narrowed := true }
def TurnPeriodsUptoSaid : Prop := turnPeriodsUptoRow.holds Try.pinned (OpenSpec.upto turnPeriodsSpec)

/-- 'porringerlaw09.TurnCodes', WHERE WHAT IT READS IS OF BULK AT MOST 1048576: true; the input reads as it did. -/
def turnCodesUptoRow : OpenClaim := { program := "ytoediaepoddonaa", sum := "abf2661b38a6248f72197b20309a10f8e69deb789181836e5cad6b50247fc2a4", func := "porringer/porringerlaw09.TurnCodes", spec := "turnCodes", unfollowed := true, recurses := true, plainKeys := false, apart := false, narrowed := true }
def TurnCodesUptoSaid : Prop := turnCodesUptoRow.holds Try.pinned (OpenSpec.upto turnCodesSpec)

/-- 'porringerlaw09.TurnLast', WHERE WHAT IT READS IS OF BULK AT MOST 1048576: true; the input reads as it did. -/
def turnLastUptoRow : OpenClaim := { program := "ytoediaepoddonaa", sum := "abf2661b38a6248f72197b20309a10f8e69deb789181836e5cad6b50247fc2a4", func := "porringer/porringerlaw09.TurnLast", spec := "turnLast", unfollowed := true, recurses := true, plainKeys := false, apart := false, narrowed := true }
def TurnLastUptoSaid : Prop := turnLastUptoRow.holds Try.pinned (OpenSpec.upto turnLastSpec)

/-- 'porringerlaw09.TurnNumbered', WHERE WHAT IT READS IS OF BULK AT MOST 1048576: true; the input reads as it did. -/
def turnNumberedUptoRow : OpenClaim := { program := "ytoediaepoddonaa", sum := "abf2661b38a6248f72197b20309a10f8e69deb789181836e5cad6b50247fc2a4", func := "porringer/porringerlaw09.TurnNumbered", spec := "turnNumbered", unfollowed := true, recurses := true, plainKeys := false, apart := false, narrowed := true }
def TurnNumberedUptoSaid : Prop := turnNumberedUptoRow.holds Try.pinned (OpenSpec.upto turnNumberedSpec)

/-- 'porringerlaw09.TurnMore', WHERE WHAT IT READS IS OF BULK AT MOST 1048576: true; the input reads as it did. -/
def turnMoreUptoRow : OpenClaim := { program := "ytoediaepoddonaa", sum := "abf2661b38a6248f72197b20309a10f8e69deb789181836e5cad6b50247fc2a4", func := "porringer/porringerlaw09.TurnMore", spec := "turnMore", unfollowed := true, recurses := true, plainKeys := false, apart := false, narrowed := true }
def TurnMoreUptoSaid : Prop := turnMoreUptoRow.holds Try.pinned (OpenSpec.upto turnMoreSpec)

/-- 'porringerlaw09.TurnWished', WHERE WHAT IT READS IS OF BULK AT MOST 1048576: true; the input reads as it did. -/
def turnWishedUptoRow : OpenClaim := { program := "ytoediaepoddonaa", sum := "abf2661b38a6248f72197b20309a10f8e69deb789181836e5cad6b50247fc2a4", func := "porringer/porringerlaw09.TurnWished", spec := "turnWished", unfollowed := true, recurses := true, plainKeys := false, apart := false, narrowed := true }
def TurnWishedUptoSaid : Prop := turnWishedUptoRow.holds Try.pinned (OpenSpec.upto turnWishedSpec)

/-- 'porringerlaw09.TurnTurned', WHERE WHAT IT READS IS OF BULK AT MOST 1048576: true; the input reads as it did. -/
def turnTurnedUptoRow : OpenClaim := { program := "ytoediaepoddonaa", sum := "abf2661b38a6248f72197b20309a10f8e69deb789181836e5cad6b50247fc2a4", func := "porringer/porringerlaw09.TurnTurned", spec := "turnTurned", unfollowed := true, recurses := true, plainKeys := false, apart := false, narrowed := true }
def TurnTurnedUptoSaid : Prop := turnTurnedUptoRow.holds Try.pinned (OpenSpec.upto turnTurnedSpec)

/-- 'porringerlaw09.TurnFirst', WHERE WHAT IT READS IS OF BULK AT MOST 1048576: true; the input reads as it did. -/
def turnFirstUptoRow : OpenClaim := { program := "ytoediaepoddonaa", sum := "abf2661b38a6248f72197b20309a10f8e69deb789181836e5cad6b50247fc2a4", func := "porringer/porringerlaw09.TurnFirst", spec := "turnFirst", unfollowed := true, recurses := true, plainKeys := false, apart := false, narrowed := true }
def TurnFirstUptoSaid : Prop := turnFirstUptoRow.holds Try.pinned (OpenSpec.upto turnFirstSpec)

/-- 'porringerlaw09.TurnKnown', WHERE WHAT IT READS IS OF BULK AT MOST 1048576: true; the input reads as it did. -/
def turnKnownUptoRow : OpenClaim := { program := "ytoediaepoddonaa", sum := "abf2661b38a6248f72197b20309a10f8e69deb789181836e5cad6b50247fc2a4", func := "porringer/porringerlaw09.TurnKnown", spec := "turnKnown", unfollowed := true, recurses := true, plainKeys := false, apart := false, narrowed := true }
def TurnKnownUptoSaid : Prop := turnKnownUptoRow.holds Try.pinned (OpenSpec.upto turnKnownSpec)

end Rows
end Go.Proofs.Ytoediaepoddonaa
