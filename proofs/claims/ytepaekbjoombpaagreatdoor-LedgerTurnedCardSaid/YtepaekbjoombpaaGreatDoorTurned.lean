/- LedgerTurned returns true, its card tied to the program's text. Whatever the input, the listed variables laid as the text lays them: no other condition. -/
import Derived.Test.YtepaekbjoombpaaGreatDoorRows
import Derived.Test.YtepaekbjoombpaaGreatDoorCards
import Derived.Test.YtepaekbjoombpaaGreatDoorTie
import Derived.Test.YtepaekbjoombpaaGreatDoorPT12
import Derived.ProofKit
import Derived.OpenShut
import Derived.LaidMore
import Derived.Lay
import Derived.SevenTiedAt
import Derived.Stop.Joined
namespace Go.Proofs.YtepaekbjoombpaaGreatDoor.ledgerTurned
open Go Go.Proofs Go.ChangeShapes Go.WideShapes Go.ChangeAt Go.RowKit Go.Run
set_option maxRecDepth 100000
set_option linter.unnecessarySimpa false

theorem andT {a b : Bool} (h : a = true) (k : b = true) : (a && b) = true := by rw [h, k]; rfl
theorem j0 : ( Rows.ledgerTurnedRow.wf (OpenSpec.ofChange Rows.ledgerTurnedSpec)) = true := by kernel_rfl
theorem j1 : (laidOutB Tryz.prog) = true := by kernel_rfl
theorem j2 : (mapsRowed Tryz.prog) = true := by kernel_rfl
theorem j3 : (Tryz.f13.params.all (Tryz.prog.readableRec ·)) = true := by kernel_rfl
theorem j4 : (namedTie Tryz.prog  Rows.ledgerTurnedRow.named Rows.ledgerTurnedSpec.vars) = true := by kernel_rfl
theorem j5 : (( Rows.ledgerTurnedRow.stops == [])) = true := by kernel_rfl
theorem j6 : ((Tryz.prog.stops == [])) = true := by kernel_rfl
theorem j7 : (( Rows.ledgerTurnedRow.knobs == [])) = true := by kernel_rfl
theorem j8 : ((Tryz.prog.stopKnobs == [])) = true := by kernel_rfl
theorem j9 : (( Rows.ledgerTurnedRow.inPlace == Tryz.prog.inPlace 13)) = true := by kernel_rfl
theorem j10 : (( Rows.ledgerTurnedRow.unfollowed == Tryz.prog.unfollowed 13)) = true := by kernel_rfl
theorem j11 : (( Rows.ledgerTurnedRow.recurses == Tryz.prog.recurses 13)) = true := by kernel_rfl
theorem j12 : (( Rows.ledgerTurnedRow.named == Tryz.prog.varsNamed 13)) = true := by kernel_rfl
theorem j13 : (( Rows.ledgerTurnedRow.maps == (Tryz.f13.params.toList ++ Rows.ledgerTurnedSpec.plain.varTypes Tryz.prog).any (Tryz.prog.mapsRec ·))) = true := by kernel_rfl
theorem j14 : (( Rows.ledgerTurnedRow.ifaces == (Tryz.f13.params.toList ++ Rows.ledgerTurnedSpec.plain.varTypes Tryz.prog).any (Tryz.prog.ifacesRec ·))) = true := by kernel_rfl
theorem j15 : (( Rows.ledgerTurnedRow.mapsOut == Tryz.prog.mapsAmong Tryz.f13.resultTypes.toList)) = true := by kernel_rfl
theorem j16 : (( Rows.ledgerTurnedRow.loops == (Tryz.f13.params.toList ++ Rows.ledgerTurnedSpec.plain.varTypes Tryz.prog).any (Tryz.prog.loopsFrom ·))) = true := by kernel_rfl
theorem j17 : (( Rows.ledgerTurnedRow.wideKeys == (Tryz.f13.params.toList ++ Rows.ledgerTurnedSpec.plain.varTypes Tryz.prog ++ Tryz.f13.resultTypes.toList).any (Tryz.prog.wideKeysFrom ·))) = true := by kernel_rfl
theorem j18 : (Rows.ledgerTurnedSpec.vars.all (Tryz.prog.varReadable ·)) = true := by kernel_rfl
theorem j19 : (Tryz.f13.resultTypes.all (fun t => Tryz.prog.readableRec t && decide (t < Tryz.prog.types.size))) = true := by kernel_rfl
theorem j20 : (( Rows.ledgerTurnedRow.ifacesOut == Tryz.f13.resultTypes.toList.any (Tryz.prog.ifacesRec ·))) = true := by kernel_rfl
theorem j21 : (( Rows.ledgerTurnedRow.loopsOut == Tryz.f13.resultTypes.toList.any (Tryz.prog.loopsFrom ·))) = true := by kernel_rfl
theorem j22 : (( Rows.ledgerTurnedRow.plainKeys == Tryz.prog.plainKeys)) = true := by kernel_rfl
theorem j23 : ( Rows.ledgerTurnedRow.shortTexts.isNone) = true := by kernel_rfl
theorem j24 : (Tryz.prog.stopsHeard) = true := by kernel_rfl
theorem j25 : (Tryz.prog.mayEnter) = true := by kernel_rfl
theorem j26 : (( Rows.ledgerTurnedRow.lifted == Tryz.prog.liftsFinal)) = true := by kernel_rfl
theorem j27 : ((Tryz.prog.make == some  Rows.ledgerTurnedRow.make)) = true := by kernel_rfl
theorem j28 : (( Rows.ledgerTurnedRow.kinds == (if  Rows.ledgerTurnedRow.domain.isEmpty then [] else Tryz.f13.params.toList.map fun t => match Tryz.prog.underlying t with | some (.int k) => some k | _ => none))) = true := by kernel_rfl
theorem j29 : (( Rows.ledgerTurnedRow.pinned ==  Rows.ledgerTurnedRow.pinnedBy)) = true := by kernel_rfl
theorem j30 : (( Rows.ledgerTurnedRow.veiled == (Tryz.f13.params.toList ++ Rows.ledgerTurnedSpec.plain.varTypes Tryz.prog ++ Tryz.f13.resultTypes.toList).any (Tryz.prog.veiledRec ·))) = true := by kernel_rfl
theorem j31 : ( Rows.ledgerTurnedRow.veiledFits Tryz.prog Tryz.f13.params.toList (Tryz.f13.params.toList ++ Rows.ledgerTurnedSpec.plain.varTypes Tryz.prog ++ Tryz.f13.resultTypes.toList)) = true := by kernel_rfl
theorem closed : joinedFacts Tryz.prog 13 Tryz.f13 Rows.ledgerTurnedSpec Rows.ledgerTurnedRow = true := (andT (andT (andT (andT (andT (andT (andT (andT (andT (andT (andT (andT (andT (andT (andT (andT (andT (andT (andT (andT (andT (andT (andT (andT (andT (andT (andT (andT (andT (andT (andT j0 j1) j2) j3) j4) j5) j6) j7) j8) j9) j10) j11) j12) j13) j14) j15) j16) j17) j18) j19) j20) j21) j22) j23) j24) j25) j26) j27) j28) j29) j30) j31)
theorem fnNamed : Tryz.prog.funcNamed "porringer/porringerlaw12.LedgerTurned" = some 13 := by kernel_rfl
theorem wrap : Tryz.f13.isWrapper Tryz.prog Rows.ledgerTurnedRow.wrapper Rows.ledgerTurnedRow.mainSum := by
  unfold Func.isWrapper; first | (rw [if_pos (by decide +kernel)]; kernel_rfl) | (rw [if_neg (by decide +kernel)]; exact ⟨rfl, rfl⟩)
theorem inst : Tryz.f13.isInstance Tryz.prog Rows.ledgerTurnedRow.origin Rows.ledgerTurnedRow.targs := of_decide_eq_true (by kernel_rfl)
theorem own : ownKnob Tryz.prog.godebug = none := by kernel_rfl
theorem laidOut : laidOutB Tryz.prog = true := by kernel_rfl
theorem lifted (os : Os) (started : os.Started) (H : Type) (enc : TypeId × Value → H) :
    ReturnsInHanded {} Tryz.checked os 13 .any (fun w args => (Rows.ledgerTurnedSpec.pre enc Tryz.prog Tryz.f13 Rows.ledgerTurnedRow.domain false w args ∧ laidMetH Tryz.prog Rows.ledgerTurnedRow.laid w) ∧ sizedMet enc Tryz.prog Tryz.f13 (OpenSpec.ofChange Rows.ledgerTurnedSpec) false w args)
      (Rows.ledgerTurnedSpec.post enc Tryz.prog Tryz.f13 false true false false) := by
  refine returnsInHanded_of_change_and (C := Tryz.checked) (X := fun w _ => laidMetH Tryz.prog Rows.ledgerTurnedRow.laid w) (fun _ _ _ hh h => h.of_heap hh) own started (by kernel_rfl) Tryz.func13
    (ChangeSpec.witness_shaped (enc := enc) (C := Tryz.checked) (os := os) (X := fun w _ => laidMetH Tryz.prog Rows.ledgerTurnedRow.laid w) false (World.laidAll Tryz.prog os Rows.ledgerTurnedRow.laid) #[.agg #[.int .i64 0, .int .i64 0, .slice none 0 0], .int .u8 0, .int .u8 0] 8 (World.laidAll_os _ _ _)
      (World.shaped_of_ZipB (by kernel_rfl) (by kernel_rfl)) (by kernel_rfl) (by kernel_rfl) (by kernel_rfl)
      (by rw [MakeChecks.laidMetH_plain _ _ _ (by kernel_rfl)]; exact laidMet_laidAll _ (by kernel_rfl) (by kernel_rfl))) ?_
  intro W base args ds gs before hval0 hW hcnd _ hL _
  have hval : ∀ (j : Nat) t v, Tryz.f13.params[j]? = some t → args[j]? = some v → Value.okWide Tryz.prog W .any base t v := hval0
  have hW' := hW
  obtain ⟨p, q, hA0, hV, rfl, hfz, hnd⟩ := hW
  have hA : DataW.TrodAll enc Tryz.prog W 0 (fun _ => true) true Tryz.f13.params.toList args.toList ds p := hA0
  have hA1 := hA
  have hlt : ∀ y ∈ p, y.block < W.heap.size := fun y hy => hW'.lt y (by simp [hy])
  rw [Tryz.params13] at hA hval
  obtain ⟨v0, v1, v2, d0, d1, d2, p0, p1, p2, rfl, rfl, rfl, h0, h1, h2⟩ := trodAll_three hA
  obtain ⟨rfl, rfl⟩ := trodVars_none hV
  obtain ⟨ac0, cl0, a0, m0, c0, es0, rfl, B0, N0⟩ := open_book (hval 0 24 _ rfl rfl) h0
  obtain ⟨n1, rfl, rfl, rfl, w1⟩ := open_int Tryz.underlying5 (hval 1 5 _ rfl rfl) h1
  obtain ⟨n2, rfl, rfl, rfl, w2⟩ := open_int Tryz.underlying5 (hval 2 5 _ rfl rfl) h2
  clear hA0 hval0
  simp only [List.append_nil] at hW' hA1 hlt
  refine (Go.Eng.calls_ext (turned13 ac0 cl0 a0 m0 c0 es0 n1 n2 W.heap B0 N0 (Go.bounds_u8 w1) (Go.bounds_u8 w2))).mono fun e W' ⟨he, hx, hr⟩ => ?_
  subst he
  exact ⟨_, rfl, post_kept (pv := []) hW' (fun _ _ _ => (trodAll_cons_mk (shut_bool Tryz.underlying4 _) trodAll_mk0)) (fun sp hs => Go.Eng.trodAll_ext laidOut hx (by kernel_rfl) hA1 hlt hs) (fun _ _ => rfl) (by simp) (Go.Run.kept_of hx hr)⟩
theorem over : Rows.LedgerTurnedSaid :=
  OpenClaim.holds_of_wide 13 Tryz.f13 rfl rfl rfl rfl rfl rfl rfl ⟨rfl, rfl, rfl, rfl, rfl⟩ rfl rfl rfl rfl rfl fnNamed Tryz.func13 closed inst wrap
    (fun os started H enc _ => lifted os started H enc)
theorem wf7 : Rows.ledgerTurnedRow.wfByText (OpenSpec.ofChange Rows.ledgerTurnedSpec) = true := by kernel_rfl
theorem main7 : Tryz.pinned.checked.prog.mainIs = some ((true, "2aa3340013a6fad92cf2575ce3a21ef53df19b5cf3bf92be2ab210bb05281df7").1, (true, "2aa3340013a6fad92cf2575ce3a21ef53df19b5cf3bf92be2ab210bb05281df7").2.toList) := by kernel_rfl
theorem looks7 : true = Tryz.prog.looks [] := by kernel_rfl
theorem goes7 : false = Rows.ledgerTurnedRow.goesBy Tryz.pinned.checked.prog := by kernel_rfl
theorem stand7 : ([24, 5, 5].all fun u => !Tryz.prog.wantsStandIn u) = true := by kernel_rfl
/-- THE STATEMENT: THE TIED CARD. -/
theorem proved : Rows.LedgerTurnedCardSaid :=
  Claim7.holds_tied_plain_at .later [] [.data, .data, .data, .data, .sentinel, .sentinel, .pinned] true (true, "2aa3340013a6fad92cf2575ce3a21ef53df19b5cf3bf92be2ab210bb05281df7") true over (fun _ h => by cases h) wf7 (fun _ h => by cases h) ledgerTurned_row_tie rfl ⟨rfl, rfl⟩ main7 rfl
    (fun f fn hf hfn => by
      obtain rfl : f = 13 := Option.some.inj (fnNamed.symm.trans hf) |>.symm
      obtain rfl : fn = Tryz.f13 := (Option.some.inj (Tryz.func13.symm.trans hfn)).symm
      exact ⟨looks7, fun j t ht => by
        rw [Tryz.params13] at ht
        have hm : t ∈ [24, 5, 5] := by have := Array.mem_of_getElem? ht; simpa using this
        exact (show Tryz.prog.wantsStandIn t = false by simpa using List.all_eq_true.1 stand7 t hm)⟩)
    goes7
#print axioms proved
end Go.Proofs.YtepaekbjoombpaaGreatDoor.ledgerTurned
