/- LedgerFiles returns true, its card tied to the program's text. Whatever the input, the listed variables laid as the text lays them: no other condition. -/
import Derived.Test.YtepaekbjoombpaaGreatDoorRows
import Derived.Test.YtepaekbjoombpaaGreatDoorCards
import Derived.Test.YtepaekbjoombpaaGreatDoorTie
import Derived.Test.YtepaekbjoombpaaGreatDoorPF12
import Derived.ProofKit
import Derived.OpenShut
import Derived.LaidMore
import Derived.Lay
import Derived.SevenTiedAt
import Derived.Stop.Joined
namespace Go.Proofs.YtepaekbjoombpaaGreatDoor.ledgerFiles
open Go Go.Proofs Go.ChangeShapes Go.WideShapes Go.ChangeAt Go.RowKit Go.Run
set_option maxRecDepth 100000
set_option linter.unnecessarySimpa false

theorem andT {a b : Bool} (h : a = true) (k : b = true) : (a && b) = true := by rw [h, k]; rfl
theorem j0 : ( Rows.ledgerFilesRow.wf (OpenSpec.ofChange Rows.ledgerFilesSpec)) = true := by kernel_rfl
theorem j1 : (laidOutB Tryz.prog) = true := by kernel_rfl
theorem j2 : (mapsRowed Tryz.prog) = true := by kernel_rfl
theorem j3 : (Tryz.f6.params.all (Tryz.prog.readableRec ·)) = true := by kernel_rfl
theorem j4 : (namedTie Tryz.prog  Rows.ledgerFilesRow.named Rows.ledgerFilesSpec.vars) = true := by kernel_rfl
theorem j5 : (( Rows.ledgerFilesRow.stops == [])) = true := by kernel_rfl
theorem j6 : ((Tryz.prog.stops == [])) = true := by kernel_rfl
theorem j7 : (( Rows.ledgerFilesRow.knobs == [])) = true := by kernel_rfl
theorem j8 : ((Tryz.prog.stopKnobs == [])) = true := by kernel_rfl
theorem j9 : (( Rows.ledgerFilesRow.inPlace == Tryz.prog.inPlace 6)) = true := by kernel_rfl
theorem j10 : (( Rows.ledgerFilesRow.unfollowed == Tryz.prog.unfollowed 6)) = true := by kernel_rfl
theorem j11 : (( Rows.ledgerFilesRow.recurses == Tryz.prog.recurses 6)) = true := by kernel_rfl
theorem j12 : (( Rows.ledgerFilesRow.named == Tryz.prog.varsNamed 6)) = true := by kernel_rfl
theorem j13 : (( Rows.ledgerFilesRow.maps == (Tryz.f6.params.toList ++ Rows.ledgerFilesSpec.plain.varTypes Tryz.prog).any (Tryz.prog.mapsRec ·))) = true := by kernel_rfl
theorem j14 : (( Rows.ledgerFilesRow.ifaces == (Tryz.f6.params.toList ++ Rows.ledgerFilesSpec.plain.varTypes Tryz.prog).any (Tryz.prog.ifacesRec ·))) = true := by kernel_rfl
theorem j15 : (( Rows.ledgerFilesRow.mapsOut == Tryz.prog.mapsAmong Tryz.f6.resultTypes.toList)) = true := by kernel_rfl
theorem j16 : (( Rows.ledgerFilesRow.loops == (Tryz.f6.params.toList ++ Rows.ledgerFilesSpec.plain.varTypes Tryz.prog).any (Tryz.prog.loopsFrom ·))) = true := by kernel_rfl
theorem j17 : (( Rows.ledgerFilesRow.wideKeys == (Tryz.f6.params.toList ++ Rows.ledgerFilesSpec.plain.varTypes Tryz.prog ++ Tryz.f6.resultTypes.toList).any (Tryz.prog.wideKeysFrom ·))) = true := by kernel_rfl
theorem j18 : (Rows.ledgerFilesSpec.vars.all (Tryz.prog.varReadable ·)) = true := by kernel_rfl
theorem j19 : (Tryz.f6.resultTypes.all (fun t => Tryz.prog.readableRec t && decide (t < Tryz.prog.types.size))) = true := by kernel_rfl
theorem j20 : (( Rows.ledgerFilesRow.ifacesOut == Tryz.f6.resultTypes.toList.any (Tryz.prog.ifacesRec ·))) = true := by kernel_rfl
theorem j21 : (( Rows.ledgerFilesRow.loopsOut == Tryz.f6.resultTypes.toList.any (Tryz.prog.loopsFrom ·))) = true := by kernel_rfl
theorem j22 : (( Rows.ledgerFilesRow.plainKeys == Tryz.prog.plainKeys)) = true := by kernel_rfl
theorem j23 : ( Rows.ledgerFilesRow.shortTexts.isNone) = true := by kernel_rfl
theorem j24 : (Tryz.prog.stopsHeard) = true := by kernel_rfl
theorem j25 : (Tryz.prog.mayEnter) = true := by kernel_rfl
theorem j26 : (( Rows.ledgerFilesRow.lifted == Tryz.prog.liftsFinal)) = true := by kernel_rfl
theorem j27 : ((Tryz.prog.make == some  Rows.ledgerFilesRow.make)) = true := by kernel_rfl
theorem j28 : (( Rows.ledgerFilesRow.kinds == (if  Rows.ledgerFilesRow.domain.isEmpty then [] else Tryz.f6.params.toList.map fun t => match Tryz.prog.underlying t with | some (.int k) => some k | _ => none))) = true := by kernel_rfl
theorem j29 : (( Rows.ledgerFilesRow.pinned ==  Rows.ledgerFilesRow.pinnedBy)) = true := by kernel_rfl
theorem j30 : (( Rows.ledgerFilesRow.veiled == (Tryz.f6.params.toList ++ Rows.ledgerFilesSpec.plain.varTypes Tryz.prog ++ Tryz.f6.resultTypes.toList).any (Tryz.prog.veiledRec ·))) = true := by kernel_rfl
theorem j31 : ( Rows.ledgerFilesRow.veiledFits Tryz.prog Tryz.f6.params.toList (Tryz.f6.params.toList ++ Rows.ledgerFilesSpec.plain.varTypes Tryz.prog ++ Tryz.f6.resultTypes.toList)) = true := by kernel_rfl
theorem closed : joinedFacts Tryz.prog 6 Tryz.f6 Rows.ledgerFilesSpec Rows.ledgerFilesRow = true := (andT (andT (andT (andT (andT (andT (andT (andT (andT (andT (andT (andT (andT (andT (andT (andT (andT (andT (andT (andT (andT (andT (andT (andT (andT (andT (andT (andT (andT (andT (andT j0 j1) j2) j3) j4) j5) j6) j7) j8) j9) j10) j11) j12) j13) j14) j15) j16) j17) j18) j19) j20) j21) j22) j23) j24) j25) j26) j27) j28) j29) j30) j31)
theorem fnNamed : Tryz.prog.funcNamed "porringer/porringerlaw12.LedgerFiles" = some 6 := by kernel_rfl
theorem wrap : Tryz.f6.isWrapper Tryz.prog Rows.ledgerFilesRow.wrapper Rows.ledgerFilesRow.mainSum := by
  unfold Func.isWrapper; first | (rw [if_pos (by decide +kernel)]; kernel_rfl) | (rw [if_neg (by decide +kernel)]; exact ⟨rfl, rfl⟩)
theorem inst : Tryz.f6.isInstance Tryz.prog Rows.ledgerFilesRow.origin Rows.ledgerFilesRow.targs := of_decide_eq_true (by kernel_rfl)
theorem own : ownKnob Tryz.prog.godebug = none := by kernel_rfl
theorem laidOut : laidOutB Tryz.prog = true := by kernel_rfl
theorem lifted (os : Os) (started : os.Started) (H : Type) (enc : TypeId × Value → H) :
    ReturnsInHanded {} Tryz.checked os 6 .any (fun w args => (Rows.ledgerFilesSpec.pre enc Tryz.prog Tryz.f6 Rows.ledgerFilesRow.domain false w args ∧ laidMetH Tryz.prog Rows.ledgerFilesRow.laid w) ∧ sizedMet enc Tryz.prog Tryz.f6 (OpenSpec.ofChange Rows.ledgerFilesSpec) false w args)
      (Rows.ledgerFilesSpec.post enc Tryz.prog Tryz.f6 false true false false) := by
  refine returnsInHanded_of_change_and (C := Tryz.checked) (X := fun w _ => laidMetH Tryz.prog Rows.ledgerFilesRow.laid w) (fun _ _ _ hh h => h.of_heap hh) own started (by kernel_rfl) Tryz.func6
    (ChangeSpec.witness_shaped (enc := enc) (C := Tryz.checked) (os := os) (X := fun w _ => laidMetH Tryz.prog Rows.ledgerFilesRow.laid w) false (World.laidAll Tryz.prog os Rows.ledgerFilesRow.laid) #[.agg #[.int .i64 0, .int .i64 0, .slice none 0 0], .string ByteArray.empty] 8 (World.laidAll_os _ _ _)
      (World.shaped_of_ZipB (by kernel_rfl) (by kernel_rfl)) (by kernel_rfl) (by kernel_rfl) (by kernel_rfl)
      (by rw [MakeChecks.laidMetH_plain _ _ _ (by kernel_rfl)]; exact laidMet_laidAll _ (by kernel_rfl) (by kernel_rfl))) ?_
  intro W base args ds gs before hval0 hW hcnd _ hL _
  have hval : ∀ (j : Nat) t v, Tryz.f6.params[j]? = some t → args[j]? = some v → Value.okWide Tryz.prog W .any base t v := hval0
  have hW' := hW
  obtain ⟨p, q, hA0, hV, rfl, hfz, hnd⟩ := hW
  have hA : DataW.TrodAll enc Tryz.prog W 0 (fun _ => true) true Tryz.f6.params.toList args.toList ds p := hA0
  have hA1 := hA
  have hlt : ∀ y ∈ p, y.block < W.heap.size := fun y hy => hW'.lt y (by simp [hy])
  rw [Tryz.params6] at hA hval
  obtain ⟨v0, v1, d0, d1, p0, p1, rfl, rfl, rfl, h0, h1⟩ := trodAll_two hA
  obtain ⟨rfl, rfl⟩ := trodVars_none hV
  obtain ⟨ac0, cl0, a0, m0, c0, es0, rfl, B0, N0⟩ := open_book (hval 0 24 _ rfl rfl) h0
  obtain ⟨s1, rfl, w1⟩ := Go.Eng.open_str Tryz.underlying9 (hval 1 9 _ rfl rfl) h1
  clear hA0 hval0
  simp only [List.append_nil] at hW' hA1 hlt
  refine (Go.Eng.calls_ext (files6 ac0 cl0 a0 m0 c0 es0 s1 W.heap (fx_of ((MakeChecks.laidMetH_plain _ _ _ (by kernel_rfl)).mp hL)) B0 N0)).mono fun e W' ⟨he, hx, hr⟩ => ?_
  subst he
  exact ⟨_, rfl, post_kept (pv := []) hW' (fun _ _ _ => (trodAll_cons_mk (shut_bool Tryz.underlying4 _) trodAll_mk0)) (fun sp hs => Go.Eng.trodAll_ext laidOut hx (by kernel_rfl) hA1 hlt hs) (fun _ _ => rfl) (by simp) (Go.Run.kept_of hx hr)⟩
theorem over : Rows.LedgerFilesSaid :=
  OpenClaim.holds_of_wide 6 Tryz.f6 rfl rfl rfl rfl rfl rfl rfl ⟨rfl, rfl, rfl, rfl, rfl⟩ rfl rfl rfl rfl rfl fnNamed Tryz.func6 closed inst wrap
    (fun os started H enc _ => lifted os started H enc)
theorem wf7 : Rows.ledgerFilesRow.wfByText (OpenSpec.ofChange Rows.ledgerFilesSpec) = true := by kernel_rfl
theorem main7 : Tryz.pinned.checked.prog.mainIs = some ((true, "2aa3340013a6fad92cf2575ce3a21ef53df19b5cf3bf92be2ab210bb05281df7").1, (true, "2aa3340013a6fad92cf2575ce3a21ef53df19b5cf3bf92be2ab210bb05281df7").2.toList) := by kernel_rfl
theorem looks7 : true = Tryz.prog.looks [] := by kernel_rfl
theorem goes7 : false = Rows.ledgerFilesRow.goesBy Tryz.pinned.checked.prog := by kernel_rfl
theorem stand7 : ([24, 9].all fun u => !Tryz.prog.wantsStandIn u) = true := by kernel_rfl
/-- THE STATEMENT: THE TIED CARD. -/
theorem proved : Rows.LedgerFilesCardSaid :=
  Claim7.holds_tied_plain_at .later [] [.data, .data, .data, .data, .sentinel, .sentinel, .pinned] true (true, "2aa3340013a6fad92cf2575ce3a21ef53df19b5cf3bf92be2ab210bb05281df7") true over (fun _ h => by cases h) wf7 (fun _ h => by cases h) ledgerFiles_row_tie rfl ⟨rfl, rfl⟩ main7 rfl
    (fun f fn hf hfn => by
      obtain rfl : f = 6 := Option.some.inj (fnNamed.symm.trans hf) |>.symm
      obtain rfl : fn = Tryz.f6 := (Option.some.inj (Tryz.func6.symm.trans hfn)).symm
      exact ⟨looks7, fun j t ht => by
        rw [Tryz.params6] at ht
        have hm : t ∈ [24, 9] := by have := Array.mem_of_getElem? ht; simpa using this
        exact (show Tryz.prog.wantsStandIn t = false by simpa using List.all_eq_true.1 stand7 t hm)⟩)
    goes7
#print axioms proved
end Go.Proofs.YtepaekbjoombpaaGreatDoor.ledgerFiles
