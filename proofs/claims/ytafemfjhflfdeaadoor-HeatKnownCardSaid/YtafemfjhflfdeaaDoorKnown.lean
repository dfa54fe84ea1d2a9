/- HeatKnown returns true, its card tied to the program's text. Whatever the input, the listed variables laid as the text lays them: no other condition. -/
import Derived.Test.YtafemfjhflfdeaaDoorRows
import Derived.Test.YtafemfjhflfdeaaDoorCards
import Derived.Test.YtafemfjhflfdeaaDoorTie
import Derived.Test.YtafemfjhflfdeaaDoorPBQH46
import Derived.Test.YtafemfjhflfdeaaDoorPB12
import Derived.ProofKit
import Derived.OpenShut
import Derived.LaidMore
import Derived.Lay
import Derived.SevenTiedAt
import Derived.Stop.Joined
namespace Go.Proofs.YtafemfjhflfdeaaDoor.heatKnown
open Go Go.Proofs Go.ChangeShapes Go.WideShapes Go.ChangeAt Go.RowKit Go.Run
set_option maxRecDepth 100000
set_option linter.unnecessarySimpa false

theorem andT {a b : Bool} (h : a = true) (k : b = true) : (a && b) = true := by rw [h, k]; rfl
theorem j0 : ( Rows.heatKnownRow.wf (OpenSpec.ofChange Rows.heatKnownSpec)) = true := by kernel_rfl
theorem j1 : (laidOutB Tryd.prog) = true := by kernel_rfl
theorem j2 : (mapsRowed Tryd.prog) = true := by kernel_rfl
theorem j3 : (Tryd.f16.params.all (Tryd.prog.readableRec ·)) = true := by kernel_rfl
theorem j4 : (namedTie Tryd.prog  Rows.heatKnownRow.named Rows.heatKnownSpec.vars) = true := by kernel_rfl
theorem j5 : (( Rows.heatKnownRow.stops == [])) = true := by kernel_rfl
theorem j6 : ((Tryd.prog.stops == [])) = true := by kernel_rfl
theorem j7 : (( Rows.heatKnownRow.knobs == [])) = true := by kernel_rfl
theorem j8 : ((Tryd.prog.stopKnobs == [])) = true := by kernel_rfl
theorem j9 : (( Rows.heatKnownRow.inPlace == Tryd.prog.inPlace 16)) = true := by kernel_rfl
theorem j10 : (( Rows.heatKnownRow.unfollowed == Tryd.prog.unfollowed 16)) = true := by kernel_rfl
theorem j11 : (( Rows.heatKnownRow.recurses == Tryd.prog.recurses 16)) = true := by kernel_rfl
theorem j12 : (( Rows.heatKnownRow.named == Tryd.prog.varsNamed 16)) = true := by kernel_rfl
theorem j13 : (( Rows.heatKnownRow.maps == (Tryd.f16.params.toList ++ Rows.heatKnownSpec.plain.varTypes Tryd.prog).any (Tryd.prog.mapsRec ·))) = true := by kernel_rfl
theorem j14 : (( Rows.heatKnownRow.ifaces == (Tryd.f16.params.toList ++ Rows.heatKnownSpec.plain.varTypes Tryd.prog).any (Tryd.prog.ifacesRec ·))) = true := by kernel_rfl
theorem j15 : (( Rows.heatKnownRow.mapsOut == Tryd.prog.mapsAmong Tryd.f16.resultTypes.toList)) = true := by kernel_rfl
theorem j16 : (( Rows.heatKnownRow.loops == (Tryd.f16.params.toList ++ Rows.heatKnownSpec.plain.varTypes Tryd.prog).any (Tryd.prog.loopsFrom ·))) = true := by kernel_rfl
theorem j17 : (( Rows.heatKnownRow.wideKeys == (Tryd.f16.params.toList ++ Rows.heatKnownSpec.plain.varTypes Tryd.prog ++ Tryd.f16.resultTypes.toList).any (Tryd.prog.wideKeysFrom ·))) = true := by kernel_rfl
theorem j18 : (Rows.heatKnownSpec.vars.all (Tryd.prog.varReadable ·)) = true := by kernel_rfl
theorem j19 : (Tryd.f16.resultTypes.all (fun t => Tryd.prog.readableRec t && decide (t < Tryd.prog.types.size))) = true := by kernel_rfl
theorem j20 : (( Rows.heatKnownRow.ifacesOut == Tryd.f16.resultTypes.toList.any (Tryd.prog.ifacesRec ·))) = true := by kernel_rfl
theorem j21 : (( Rows.heatKnownRow.loopsOut == Tryd.f16.resultTypes.toList.any (Tryd.prog.loopsFrom ·))) = true := by kernel_rfl
theorem j22 : (( Rows.heatKnownRow.plainKeys == Tryd.prog.plainKeys)) = true := by kernel_rfl
theorem j23 : ( Rows.heatKnownRow.shortTexts.isNone) = true := by kernel_rfl
theorem j24 : (Tryd.prog.stopsHeard) = true := by kernel_rfl
theorem j25 : (Tryd.prog.mayEnter) = true := by kernel_rfl
theorem j26 : (( Rows.heatKnownRow.lifted == Tryd.prog.liftsFinal)) = true := by kernel_rfl
theorem j27 : ((Tryd.prog.make == some  Rows.heatKnownRow.make)) = true := by kernel_rfl
theorem j28 : (( Rows.heatKnownRow.kinds == (if  Rows.heatKnownRow.domain.isEmpty then [] else Tryd.f16.params.toList.map fun t => match Tryd.prog.underlying t with | some (.int k) => some k | _ => none))) = true := by kernel_rfl
theorem j29 : (( Rows.heatKnownRow.pinned ==  Rows.heatKnownRow.pinnedBy)) = true := by kernel_rfl
theorem j30 : (( Rows.heatKnownRow.veiled == (Tryd.f16.params.toList ++ Rows.heatKnownSpec.plain.varTypes Tryd.prog ++ Tryd.f16.resultTypes.toList).any (Tryd.prog.veiledRec ·))) = true := by kernel_rfl
theorem j31 : ( Rows.heatKnownRow.veiledFits Tryd.prog Tryd.f16.params.toList (Tryd.f16.params.toList ++ Rows.heatKnownSpec.plain.varTypes Tryd.prog ++ Tryd.f16.resultTypes.toList)) = true := by kernel_rfl
theorem closed : joinedFacts Tryd.prog 16 Tryd.f16 Rows.heatKnownSpec Rows.heatKnownRow = true := (andT (andT (andT (andT (andT (andT (andT (andT (andT (andT (andT (andT (andT (andT (andT (andT (andT (andT (andT (andT (andT (andT (andT (andT (andT (andT (andT (andT (andT (andT (andT j0 j1) j2) j3) j4) j5) j6) j7) j8) j9) j10) j11) j12) j13) j14) j15) j16) j17) j18) j19) j20) j21) j22) j23) j24) j25) j26) j27) j28) j29) j30) j31)
theorem fnNamed : Tryd.prog.funcNamed "porringer/porringerlaw07.HeatKnown" = some 16 := by kernel_rfl
theorem wrap : Tryd.f16.isWrapper Tryd.prog Rows.heatKnownRow.wrapper Rows.heatKnownRow.mainSum := by
  unfold Func.isWrapper; first | (rw [if_pos (by decide +kernel)]; kernel_rfl) | (rw [if_neg (by decide +kernel)]; exact ⟨rfl, rfl⟩)
theorem inst : Tryd.f16.isInstance Tryd.prog Rows.heatKnownRow.origin Rows.heatKnownRow.targs := of_decide_eq_true (by kernel_rfl)
theorem own : ownKnob Tryd.prog.godebug = none := by kernel_rfl
theorem laidOut : laidOutB Tryd.prog = true := by kernel_rfl
theorem lifted (os : Os) (started : os.Started) (H : Type) (enc : TypeId × Value → H) :
    ReturnsInHanded {} Tryd.checked os 16 .any (fun w args => (Rows.heatKnownSpec.pre enc Tryd.prog Tryd.f16 Rows.heatKnownRow.domain false w args ∧ laidMetH Tryd.prog Rows.heatKnownRow.laid w) ∧ sizedMet enc Tryd.prog Tryd.f16 (OpenSpec.ofChange Rows.heatKnownSpec) false w args)
      (Rows.heatKnownSpec.post enc Tryd.prog Tryd.f16 false true false false) := by
  refine returnsInHanded_of_change_and (C := Tryd.checked) (X := fun w _ => laidMetH Tryd.prog Rows.heatKnownRow.laid w) (fun _ _ _ hh h => h.of_heap hh) own started (by kernel_rfl) Tryd.func16
    (ChangeSpec.witness_shaped (enc := enc) (C := Tryd.checked) (os := os) (X := fun w _ => laidMetH Tryd.prog Rows.heatKnownRow.laid w) false (World.laidAll Tryd.prog os Rows.heatKnownRow.laid) #[] 8 (World.laidAll_os _ _ _)
      (World.shaped_of_ZipB (by kernel_rfl) (by kernel_rfl)) (by kernel_rfl) (by kernel_rfl) (by kernel_rfl)
      (by rw [MakeChecks.laidMetH_plain _ _ _ (by kernel_rfl)]; exact laidMet_laidAll _ (by kernel_rfl) (by kernel_rfl))) ?_
  intro W base args ds gs before hval0 hW hcnd _ hL _
  have hval : ∀ (j : Nat) t v, Tryd.f16.params[j]? = some t → args[j]? = some v → Value.okWide Tryd.prog W .any base t v := hval0
  have hW' := hW
  obtain ⟨p, q, hA0, hV, rfl, hfz, hnd⟩ := hW
  have hA : DataW.TrodAll enc Tryd.prog W 0 (fun _ => true) true Tryd.f16.params.toList args.toList ds p := hA0
  have hA1 := hA
  have hlt : ∀ y ∈ p, y.block < W.heap.size := fun y hy => hW'.lt y (by simp [hy])
  rw [Tryd.params16] at hA hval
  obtain ⟨rfl, rfl, rfl⟩ := trodAll_none hA
  obtain ⟨rfl, rfl⟩ := trodVars_none hV

  clear hA0 hval0
  simp only [List.append_nil] at hW' hA1 hlt
  refine (Go.Eng.calls_ext (known16  W.heap )).mono fun e W' ⟨he, hx, hr⟩ => ?_
  subst he
  exact ⟨_, rfl, post_kept (pv := []) hW' (fun _ _ _ => (trodAll_cons_mk (shut_bool Tryd.underlying4 _) trodAll_mk0)) (fun sp hs => Go.Eng.trodAll_ext laidOut hx (by kernel_rfl) hA1 hlt hs) (fun _ _ => rfl) (by simp) (Go.Run.kept_of hx hr)⟩
theorem over : Rows.HeatKnownSaid :=
  OpenClaim.holds_of_wide 16 Tryd.f16 rfl rfl rfl rfl rfl rfl rfl ⟨rfl, rfl, rfl, rfl, rfl⟩ rfl rfl rfl rfl rfl fnNamed Tryd.func16 closed inst wrap
    (fun os started H enc _ => lifted os started H enc)
theorem wf7 : Rows.heatKnownRow.wfByText (OpenSpec.ofChange Rows.heatKnownSpec) = true := by kernel_rfl
theorem main7 : Tryd.pinned.checked.prog.mainIs = some ((true, "bc8726acb983071f89b62a2fe24b8370b29588b2cbc97bd97225a90a22e5b3c7").1, (true, "bc8726acb983071f89b62a2fe24b8370b29588b2cbc97bd97225a90a22e5b3c7").2.toList) := by kernel_rfl
theorem looks7 : false = Tryd.prog.looks [] := by kernel_rfl
theorem goes7 : false = Rows.heatKnownRow.goesBy Tryd.pinned.checked.prog := by kernel_rfl
theorem stand7 : ([4].all fun u => !Tryd.prog.wantsStandIn u) = true := by kernel_rfl
/-- THE STATEMENT: THE TIED CARD. -/
theorem proved : Rows.HeatKnownCardSaid :=
  Claim7.holds_tied_plain_at .later [] [.data, .pinned] true (true, "bc8726acb983071f89b62a2fe24b8370b29588b2cbc97bd97225a90a22e5b3c7") false over (fun _ h => by cases h) wf7 (fun _ h => by cases h) heatKnown_row_tie rfl ⟨rfl, rfl⟩ main7 rfl
    (fun f fn hf hfn => by
      obtain rfl : f = 16 := Option.some.inj (fnNamed.symm.trans hf) |>.symm
      obtain rfl : fn = Tryd.f16 := (Option.some.inj (Tryd.func16.symm.trans hfn)).symm
      exact ⟨looks7, fun j t ht => by
        rw [Tryd.params16] at ht
        have hm : t ∈ [4] := by have := Array.mem_of_getElem? ht; simpa using this
        exact (show Tryd.prog.wantsStandIn t = false by simpa using List.all_eq_true.1 stand7 t hm)⟩)
    goes7
#print axioms proved
end Go.Proofs.YtafemfjhflfdeaaDoor.heatKnown
