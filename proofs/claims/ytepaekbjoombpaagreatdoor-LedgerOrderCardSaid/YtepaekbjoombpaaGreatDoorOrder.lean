/- LedgerOrder returns true, its card tied to the program's text. Whatever the input, the listed variables laid as the text lays them: no other condition. -/
import Derived.Test.YtepaekbjoombpaaGreatDoorRows
import Derived.Test.YtepaekbjoombpaaGreatDoorCards
import Derived.Test.YtepaekbjoombpaaGreatDoorTie
import Derived.Test.YtepaekbjoombpaaGreatDoorE2
import Derived.Test.YtepaekbjoombpaaGreatDoorOpenC
import Derived.Test.YtepaekbjoombpaaGreatDoorEngR
import Derived.ProofKit
import Derived.OpenShut
import Derived.LaidMore
import Derived.Lay
import Derived.SevenTiedAt
import Derived.Stop.Joined
namespace Go.Proofs.YtepaekbjoombpaaGreatDoor.ledgerOrder
open Go Go.Proofs Go.ChangeShapes Go.WideShapes Go.ChangeAt Go.RowKit Go.Run
set_option maxRecDepth 100000

theorem andT {a b : Bool} (h : a = true) (k : b = true) : (a && b) = true := by rw [h, k]; rfl
theorem j0 : ( Rows.ledgerOrderRow.wf (OpenSpec.ofChange Rows.ledgerOrderSpec)) = true := by kernel_rfl
theorem j1 : (laidOutB Tryz.prog) = true := by kernel_rfl
theorem j2 : (mapsRowed Tryz.prog) = true := by kernel_rfl
theorem j3 : (Tryz.f10.params.all (Tryz.prog.readableRec ·)) = true := by kernel_rfl
theorem j4 : (namedTie Tryz.prog  Rows.ledgerOrderRow.named Rows.ledgerOrderSpec.vars) = true := by kernel_rfl
theorem j5 : (( Rows.ledgerOrderRow.stops == [])) = true := by kernel_rfl
theorem j6 : ((Tryz.prog.stops == [])) = true := by kernel_rfl
theorem j7 : (( Rows.ledgerOrderRow.knobs == [])) = true := by kernel_rfl
theorem j8 : ((Tryz.prog.stopKnobs == [])) = true := by kernel_rfl
theorem j9 : (( Rows.ledgerOrderRow.inPlace == Tryz.prog.inPlace 10)) = true := by kernel_rfl
theorem j10 : (( Rows.ledgerOrderRow.unfollowed == Tryz.prog.unfollowed 10)) = true := by kernel_rfl
theorem j11 : (( Rows.ledgerOrderRow.recurses == Tryz.prog.recurses 10)) = true := by kernel_rfl
theorem j12 : (( Rows.ledgerOrderRow.named == Tryz.prog.varsNamed 10)) = true := by kernel_rfl
theorem j13 : (( Rows.ledgerOrderRow.maps == (Tryz.f10.params.toList ++ Rows.ledgerOrderSpec.plain.varTypes Tryz.prog).any (Tryz.prog.mapsRec ·))) = true := by kernel_rfl
theorem j14 : (( Rows.ledgerOrderRow.ifaces == (Tryz.f10.params.toList ++ Rows.ledgerOrderSpec.plain.varTypes Tryz.prog).any (Tryz.prog.ifacesRec ·))) = true := by kernel_rfl
theorem j15 : (( Rows.ledgerOrderRow.mapsOut == Tryz.prog.mapsAmong Tryz.f10.resultTypes.toList)) = true := by kernel_rfl
theorem j16 : (( Rows.ledgerOrderRow.loops == (Tryz.f10.params.toList ++ Rows.ledgerOrderSpec.plain.varTypes Tryz.prog).any (Tryz.prog.loopsFrom ·))) = true := by kernel_rfl
theorem j17 : (( Rows.ledgerOrderRow.wideKeys == (Tryz.f10.params.toList ++ Rows.ledgerOrderSpec.plain.varTypes Tryz.prog ++ Tryz.f10.resultTypes.toList).any (Tryz.prog.wideKeysFrom ·))) = true := by kernel_rfl
theorem j18 : (Rows.ledgerOrderSpec.vars.all (Tryz.prog.varReadable ·)) = true := by kernel_rfl
theorem j19 : (Tryz.f10.resultTypes.all (fun t => Tryz.prog.readableRec t && decide (t < Tryz.prog.types.size))) = true := by kernel_rfl
theorem j20 : (( Rows.ledgerOrderRow.ifacesOut == Tryz.f10.resultTypes.toList.any (Tryz.prog.ifacesRec ·))) = true := by kernel_rfl
theorem j21 : (( Rows.ledgerOrderRow.loopsOut == Tryz.f10.resultTypes.toList.any (Tryz.prog.loopsFrom ·))) = true := by kernel_rfl
theorem j22 : (( Rows.ledgerOrderRow.plainKeys == Tryz.prog.plainKeys)) = true := by kernel_rfl
theorem j23 : ( Rows.ledgerOrderRow.shortTexts.isNone) = true := by kernel_rfl
theorem j24 : (Tryz.prog.stopsHeard) = true := by kernel_rfl
theorem j25 : (Tryz.prog.mayEnter) = true := by kernel_rfl
theorem j26 : (( Rows.ledgerOrderRow.lifted == Tryz.prog.liftsFinal)) = true := by kernel_rfl
theorem j27 : ((Tryz.prog.make == some  Rows.ledgerOrderRow.make)) = true := by kernel_rfl
theorem j28 : (( Rows.ledgerOrderRow.kinds == (if  Rows.ledgerOrderRow.domain.isEmpty then [] else Tryz.f10.params.toList.map fun t => match Tryz.prog.underlying t with | some (.int k) => some k | _ => none))) = true := by kernel_rfl
theorem j29 : (( Rows.ledgerOrderRow.pinned ==  Rows.ledgerOrderRow.pinnedBy)) = true := by kernel_rfl
theorem j30 : (( Rows.ledgerOrderRow.veiled == (Tryz.f10.params.toList ++ Rows.ledgerOrderSpec.plain.varTypes Tryz.prog ++ Tryz.f10.resultTypes.toList).any (Tryz.prog.veiledRec ·))) = true := by kernel_rfl
theorem j31 : ( Rows.ledgerOrderRow.veiledFits Tryz.prog Tryz.f10.params.toList (Tryz.f10.params.toList ++ Rows.ledgerOrderSpec.plain.varTypes Tryz.prog ++ Tryz.f10.resultTypes.toList)) = true := by kernel_rfl
theorem closed : joinedFacts Tryz.prog 10 Tryz.f10 Rows.ledgerOrderSpec Rows.ledgerOrderRow = true := (andT (andT (andT (andT (andT (andT (andT (andT (andT (andT (andT (andT (andT (andT (andT (andT (andT (andT (andT (andT (andT (andT (andT (andT (andT (andT (andT (andT (andT (andT (andT j0 j1) j2) j3) j4) j5) j6) j7) j8) j9) j10) j11) j12) j13) j14) j15) j16) j17) j18) j19) j20) j21) j22) j23) j24) j25) j26) j27) j28) j29) j30) j31)
theorem fnNamed : Tryz.prog.funcNamed "porringer/porringerlaw12.LedgerOrder" = some 10 := by kernel_rfl
theorem wrap : Tryz.f10.isWrapper Tryz.prog Rows.ledgerOrderRow.wrapper Rows.ledgerOrderRow.mainSum := by
  unfold Func.isWrapper; first | (rw [if_pos (by decide +kernel)]; kernel_rfl) | (rw [if_neg (by decide +kernel)]; exact ⟨rfl, rfl⟩)
theorem inst : Tryz.f10.isInstance Tryz.prog Rows.ledgerOrderRow.origin Rows.ledgerOrderRow.targs := of_decide_eq_true (by kernel_rfl)
theorem own : ownKnob Tryz.prog.godebug = none := by kernel_rfl
theorem laidOut : laidOutB Tryz.prog = true := by kernel_rfl
theorem lifted (os : Os) (started : os.Started) (H : Type) (enc : TypeId × Value → H) :
    ReturnsInHanded {} Tryz.checked os 10 .any (fun w args => (Rows.ledgerOrderSpec.pre enc Tryz.prog Tryz.f10 Rows.ledgerOrderRow.domain false w args ∧ laidMetH Tryz.prog Rows.ledgerOrderRow.laid w) ∧ sizedMet enc Tryz.prog Tryz.f10 (OpenSpec.ofChange Rows.ledgerOrderSpec) false w args)
      (Rows.ledgerOrderSpec.post enc Tryz.prog Tryz.f10 false true false false) := by
  refine returnsInHanded_of_change_and (C := Tryz.checked) (X := fun w _ => laidMetH Tryz.prog Rows.ledgerOrderRow.laid w) (fun _ _ _ hh h => h.of_heap hh) own started (by kernel_rfl) Tryz.func10
    (ChangeSpec.witness_shaped (enc := enc) (C := Tryz.checked) (os := os) (X := fun w _ => laidMetH Tryz.prog Rows.ledgerOrderRow.laid w) false (World.laidAll Tryz.prog os Rows.ledgerOrderRow.laid) #[.agg #[.int .i64 0, .int .i64 0, .slice none 0 0], .agg #[.int .i64 0, .int .i64 0, .int .i64 0, .int .i64 0], .agg #[.int .i64 0, .int .i64 0, .int .i64 0, .int .i64 0]] 8 (World.laidAll_os _ _ _)
      (World.shaped_of_ZipB (by kernel_rfl) (by kernel_rfl)) (by kernel_rfl) (by kernel_rfl) (by kernel_rfl)
      (by rw [MakeChecks.laidMetH_plain _ _ _ (by kernel_rfl)]; exact laidMet_laidAll _ (by kernel_rfl) (by kernel_rfl))) ?_
  intro W base args ds gs before hval0 hW hcnd _ hL _
  have hval : ∀ (j : Nat) t v, Tryz.f10.params[j]? = some t → args[j]? = some v → Value.okWide Tryz.prog W .any base t v := hval0
  have hW' := hW
  obtain ⟨p, q, hA0, hV, rfl, hfz, hnd⟩ := hW
  have hA : DataW.TrodAll enc Tryz.prog W 0 (fun _ => true) true Tryz.f10.params.toList args.toList ds p := hA0
  have hA1 := hA
  have hlt : ∀ y ∈ p, y.block < W.heap.size := fun y hy => hW'.lt y (by simp [hy])
  rw [Tryz.params10] at hA hval
  obtain ⟨v0, v1, v2, d0, d1, d2, p0, p1, p2, rfl, rfl, rfl, h0, h1, h2⟩ := trodAll_three hA
  obtain ⟨rfl, rfl⟩ := trodVars_none hV
  obtain ⟨ac0, cl0, a0, m0, c0, es0, rfl, B0, N0⟩ := open_book (hval 0 24 _ rfl rfl) h0
  obtain ⟨en1, rfl, w1⟩ := open_entry (hval 1 26 _ rfl rfl) h1
  obtain ⟨en2, rfl, w2⟩ := open_entry (hval 2 26 _ rfl rfl) h2
  clear hA0 hval0
  simp only [List.append_nil] at hW' hA1 hlt
  refine (Go.Eng.calls_ext (order10 ac0 cl0 a0 m0 c0 es0 en1 en2 W.heap B0 N0)).mono fun e W' ⟨he, hx, hr⟩ => ?_
  subst he
  exact ⟨_, rfl, post_kept (pv := []) hW' (fun _ _ _ => (trodAll_cons_mk (shut_bool Tryz.underlying4 _) trodAll_mk0)) (fun sp hs => Go.Eng.trodAll_ext laidOut hx (by kernel_rfl) hA1 hlt hs) (fun _ _ => rfl) (by simp) (Go.Run.kept_of hx hr)⟩
theorem over : Rows.LedgerOrderSaid :=
  OpenClaim.holds_of_wide 10 Tryz.f10 rfl rfl rfl rfl rfl rfl rfl ⟨rfl, rfl, rfl, rfl, rfl⟩ rfl rfl rfl rfl rfl fnNamed Tryz.func10 closed inst wrap
    (fun os started H enc _ => lifted os started H enc)
theorem wf7 : Rows.ledgerOrderRow.wfByText (OpenSpec.ofChange Rows.ledgerOrderSpec) = true := by kernel_rfl
theorem main7 : Tryz.pinned.checked.prog.mainIs = some ((true, "2aa3340013a6fad92cf2575ce3a21ef53df19b5cf3bf92be2ab210bb05281df7").1, (true, "2aa3340013a6fad92cf2575ce3a21ef53df19b5cf3bf92be2ab210bb05281df7").2.toList) := by kernel_rfl
theorem looks7 : true = Tryz.prog.looks [] := by kernel_rfl
theorem goes7 : false = Rows.ledgerOrderRow.goesBy Tryz.pinned.checked.prog := by kernel_rfl
theorem stand7 : ([24, 26, 26].all fun u => !Tryz.prog.wantsStandIn u) = true := by kernel_rfl
/-- THE STATEMENT: THE TIED CARD. -/
theorem proved : Rows.LedgerOrderCardSaid :=
  Claim7.holds_tied_plain_at .later [] [.data, .data, .data, .data, .sentinel, .sentinel, .pinned] true (true, "2aa3340013a6fad92cf2575ce3a21ef53df19b5cf3bf92be2ab210bb05281df7") true over (fun _ h => by cases h) wf7 (fun _ h => by cases h) ledgerOrder_row_tie rfl ⟨rfl, rfl⟩ main7 rfl
    (fun f fn hf hfn => by
      obtain rfl : f = 10 := Option.some.inj (fnNamed.symm.trans hf) |>.symm
      obtain rfl : fn = Tryz.f10 := (Option.some.inj (Tryz.func10.symm.trans hfn)).symm
      exact ⟨looks7, fun j t ht => by
        rw [Tryz.params10] at ht
        have hm : t ∈ [24, 26, 26] := by have := Array.mem_of_getElem? ht; simpa using this
        exact (show Tryz.prog.wantsStandIn t = false by simpa using List.all_eq_true.1 stand7 t hm)⟩)
    goes7
#print axioms proved
end Go.Proofs.YtepaekbjoombpaaGreatDoor.ledgerOrder
