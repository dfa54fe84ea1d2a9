/- HeatBegun returns true, its card tied to the program's text. Whatever the input, the listed variables laid as the text lays them: no other condition. -/
import Derived.Test.YtafemfjhflfdeaaDoorRows
import Derived.Test.YtafemfjhflfdeaaDoorCards
import Derived.Test.YtafemfjhflfdeaaDoorTie
import Derived.Test.YtafemfjhflfdeaaDoorPBQH45
import Derived.Test.YtafemfjhflfdeaaDoorPB13
import Derived.ProofKit
import Derived.OpenShut
import Derived.LaidMore
import Derived.Lay
import Derived.SevenTiedAt
import Derived.Stop.Joined
namespace Go.Proofs.YtafemfjhflfdeaaDoor.heatBegun
open Go Go.Proofs Go.ChangeShapes Go.WideShapes Go.ChangeAt Go.RowKit Go.Run
set_option maxRecDepth 100000

theorem andT {a b : Bool} (h : a = true) (k : b = true) : (a && b) = true := by rw [h, k]; rfl
theorem j0 : ( Rows.heatBegunRow.wf (OpenSpec.ofChange Rows.heatBegunSpec)) = true := by kernel_rfl
theorem j1 : (laidOutB Tryd.prog) = true := by kernel_rfl
theorem j2 : (mapsRowed Tryd.prog) = true := by kernel_rfl
theorem j3 : (Tryd.f15.params.all (Tryd.prog.readableRec ·)) = true := by kernel_rfl
theorem j4 : (namedTie Tryd.prog  Rows.heatBegunRow.named Rows.heatBegunSpec.vars) = true := by kernel_rfl
theorem j5 : (( Rows.heatBegunRow.stops == [])) = true := by kernel_rfl
theorem j6 : ((Tryd.prog.stops == [])) = true := by kernel_rfl
theorem j7 : (( Rows.heatBegunRow.knobs == [])) = true := by kernel_rfl
theorem j8 : ((Tryd.prog.stopKnobs == [])) = true := by kernel_rfl
theorem j9 : (( Rows.heatBegunRow.inPlace == Tryd.prog.inPlace 15)) = true := by kernel_rfl
theorem j10 : (( Rows.heatBegunRow.unfollowed == Tryd.prog.unfollowed 15)) = true := by kernel_rfl
theorem j11 : (( Rows.heatBegunRow.recurses == Tryd.prog.recurses 15)) = true := by kernel_rfl
theorem j12 : (( Rows.heatBegunRow.named == Tryd.prog.varsNamed 15)) = true := by kernel_rfl
theorem j13 : (( Rows.heatBegunRow.maps == (Tryd.f15.params.toList ++ Rows.heatBegunSpec.plain.varTypes Tryd.prog).any (Tryd.prog.mapsRec ·))) = true := by kernel_rfl
theorem j14 : (( Rows.heatBegunRow.ifaces == (Tryd.f15.params.toList ++ Rows.heatBegunSpec.plain.varTypes Tryd.prog).any (Tryd.prog.ifacesRec ·))) = true := by kernel_rfl
theorem j15 : (( Rows.heatBegunRow.mapsOut == Tryd.prog.mapsAmong Tryd.f15.resultTypes.toList)) = true := by kernel_rfl
theorem j16 : (( Rows.heatBegunRow.loops == (Tryd.f15.params.toList ++ Rows.heatBegunSpec.plain.varTypes Tryd.prog).any (Tryd.prog.loopsFrom ·))) = true := by kernel_rfl
theorem j17 : (( Rows.heatBegunRow.wideKeys == (Tryd.f15.params.toList ++ Rows.heatBegunSpec.plain.varTypes Tryd.prog ++ Tryd.f15.resultTypes.toList).any (Tryd.prog.wideKeysFrom ·))) = true := by kernel_rfl
theorem j18 : (Rows.heatBegunSpec.vars.all (Tryd.prog.varReadable ·)) = true := by kernel_rfl
theorem j19 : (Tryd.f15.resultTypes.all (fun t => Tryd.prog.readableRec t && decide (t < Tryd.prog.types.size))) = true := by kernel_rfl
theorem j20 : (( Rows.heatBegunRow.ifacesOut == Tryd.f15.resultTypes.toList.any (Tryd.prog.ifacesRec ·))) = true := by kernel_rfl
theorem j21 : (( Rows.heatBegunRow.loopsOut == Tryd.f15.resultTypes.toList.any (Tryd.prog.loopsFrom ·))) = true := by kernel_rfl
theorem j22 : (( Rows.heatBegunRow.plainKeys == Tryd.prog.plainKeys)) = true := by kernel_rfl
theorem j23 : ( Rows.heatBegunRow.shortTexts.isNone) = true := by kernel_rfl
theorem j24 : (Tryd.prog.stopsHeard) = true := by kernel_rfl
theorem j25 : (Tryd.prog.mayEnter) = true := by kernel_rfl
theorem j26 : (( Rows.heatBegunRow.lifted == Tryd.prog.liftsFinal)) = true := by kernel_rfl
theorem j27 : ((Tryd.prog.make == some  Rows.heatBegunRow.make)) = true := by kernel_rfl
theorem j28 : (( Rows.heatBegunRow.kinds == (if  Rows.heatBegunRow.domain.isEmpty then [] else Tryd.f15.params.toList.map fun t => match Tryd.prog.underlying t with | some (.int k) => some k | _ => none))) = true := by kernel_rfl
theorem j29 : (( Rows.heatBegunRow.pinned ==  Rows.heatBegunRow.pinnedBy)) = true := by kernel_rfl
theorem j30 : (( Rows.heatBegunRow.veiled == (Tryd.f15.params.toList ++ Rows.heatBegunSpec.plain.varTypes Tryd.prog ++ Tryd.f15.resultTypes.toList).any (Tryd.prog.veiledRec ·))) = true := by kernel_rfl
theorem j31 : ( Rows.heatBegunRow.veiledFits Tryd.prog Tryd.f15.params.toList (Tryd.f15.params.toList ++ Rows.heatBegunSpec.plain.varTypes Tryd.prog ++ Tryd.f15.resultTypes.toList)) = true := by kernel_rfl
theorem closed : joinedFacts Tryd.prog 15 Tryd.f15 Rows.heatBegunSpec Rows.heatBegunRow = true := (andT (andT (andT (andT (andT (andT (andT (andT (andT (andT (andT (andT (andT (andT (andT (andT (andT (andT (andT (andT (andT (andT (andT (andT (andT (andT (andT (andT (andT (andT (andT j0 j1) j2) j3) j4) j5) j6) j7) j8) j9) j10) j11) j12) j13) j14) j15) j16) j17) j18) j19) j20) j21) j22) j23) j24) j25) j26) j27) j28) j29) j30) j31)
theorem fnNamed : Tryd.prog.funcNamed "porringer/porringerlaw07.HeatBegun" = some 15 := by kernel_rfl
theorem wrap : Tryd.f15.isWrapper Tryd.prog Rows.heatBegunRow.wrapper Rows.heatBegunRow.mainSum := by
  unfold Func.isWrapper; first | (rw [if_pos (by decide +kernel)]; kernel_rfl) | (rw [if_neg (by decide +kernel)]; exact ⟨rfl, rfl⟩)
theorem inst : Tryd.f15.isInstance Tryd.prog Rows.heatBegunRow.origin Rows.heatBegunRow.targs := of_decide_eq_true (by kernel_rfl)
theorem own : ownKnob Tryd.prog.godebug = none := by kernel_rfl
theorem laidOut : laidOutB Tryd.prog = true := by kernel_rfl
theorem lifted (os : Os) (started : os.Started) (H : Type) (enc : TypeId × Value → H) :
    ReturnsInHanded {} Tryd.checked os 15 .any (fun w args => (Rows.heatBegunSpec.pre enc Tryd.prog Tryd.f15 Rows.heatBegunRow.domain false w args ∧ laidMetH Tryd.prog Rows.heatBegunRow.laid w) ∧ sizedMet enc Tryd.prog Tryd.f15 (OpenSpec.ofChange Rows.heatBegunSpec) false w args)
      (Rows.heatBegunSpec.post enc Tryd.prog Tryd.f15 false true false false) := by
  refine returnsInHanded_of_change_and (C := Tryd.checked) (X := fun w _ => laidMetH Tryd.prog Rows.heatBegunRow.laid w) (fun _ _ _ hh h => h.of_heap hh) own started (by kernel_rfl) Tryd.func15
    (ChangeSpec.witness_shaped (enc := enc) (C := Tryd.checked) (os := os) (X := fun w _ => laidMetH Tryd.prog Rows.heatBegunRow.laid w) false (World.laidAll Tryd.prog os Rows.heatBegunRow.laid) #[.agg #[.slice none 0 0, .slice none 0 0, .int .i64 0, .int .i64 0], .int .u8 0, .slice none 0 0, .int .u8 0] 8 (World.laidAll_os _ _ _)
      (World.shaped_of_ZipB (by kernel_rfl) (by kernel_rfl)) (by kernel_rfl) (by kernel_rfl) (by kernel_rfl)
      (by rw [MakeChecks.laidMetH_plain _ _ _ (by kernel_rfl)]; exact laidMet_laidAll _ (by kernel_rfl) (by kernel_rfl))) ?_
  intro W base args ds gs before hval0 hW hcnd _ hL _
  have hval : ∀ (j : Nat) t v, Tryd.f15.params[j]? = some t → args[j]? = some v → Value.okWide Tryd.prog W .any base t v := hval0
  have hW' := hW
  obtain ⟨p, q, hA0, hV, rfl, hfz, hnd⟩ := hW
  have hA : DataW.TrodAll enc Tryd.prog W 0 (fun _ => true) true Tryd.f15.params.toList args.toList ds p := hA0
  have hA1 := hA
  have hlt : ∀ y ∈ p, y.block < W.heap.size := fun y hy => hW'.lt y (by simp [hy])
  rw [Tryd.params15] at hA hval
  obtain ⟨v0, v1, v2, v3, d0, d1, d2, d3, p0, p1, p2, p3, rfl, rfl, rfl, h0, h1, h2, h3⟩ := trodAll_four hA
  obtain ⟨rfl, rfl⟩ := trodVars_none hV
  obtain ⟨m0, rfl, I0, J0⟩ := open_mould (hval 0 24 _ rfl rfl) h0
  obtain ⟨n1, rfl, rfl, rfl, w1⟩ := open_int Tryd.underlying5 (hval 1 5 _ rfl rfl) h1
  obtain ⟨a2, m2, c2, xs2, rfl, N2, B2, M2, X2⟩ := Go.Eng.open_bytes Tryd.underlying63 Tryd.underlying5 (by kernel_rfl) (hval 2 63 _ rfl rfl) h2
  obtain ⟨n3, rfl, rfl, rfl, w3⟩ := open_int Tryd.underlying5 (hval 3 5 _ rfl rfl) h3
  clear hA0 hval0
  simp only [List.append_nil] at hW' hA1 hlt
  refine (Go.Eng.calls_ext (begun15 m0 n1 a2 m2 c2 xs2 n3 W.heap I0 J0 (Go.bounds_u8 w1) N2 B2 M2 X2 (Go.bounds_u8 w3))).mono fun e W' ⟨he, hx, hr⟩ => ?_
  subst he
  exact ⟨_, rfl, post_kept (pv := []) hW' (fun _ _ _ => (trodAll_cons_mk (shut_bool Tryd.underlying4 _) trodAll_mk0)) (fun sp hs => Go.Eng.trodAll_ext laidOut hx (by kernel_rfl) hA1 hlt hs) (fun _ _ => rfl) (by simp) (Go.Run.kept_of hx hr)⟩
theorem over : Rows.HeatBegunSaid :=
  OpenClaim.holds_of_wide 15 Tryd.f15 rfl rfl rfl rfl rfl rfl rfl ⟨rfl, rfl, rfl, rfl, rfl⟩ rfl rfl rfl rfl rfl fnNamed Tryd.func15 closed inst wrap
    (fun os started H enc _ => lifted os started H enc)
theorem wf7 : Rows.heatBegunRow.wfByText (OpenSpec.ofChange Rows.heatBegunSpec) = true := by kernel_rfl
theorem main7 : Tryd.pinned.checked.prog.mainIs = some ((true, "bc8726acb983071f89b62a2fe24b8370b29588b2cbc97bd97225a90a22e5b3c7").1, (true, "bc8726acb983071f89b62a2fe24b8370b29588b2cbc97bd97225a90a22e5b3c7").2.toList) := by kernel_rfl
theorem looks7 : false = Tryd.prog.looks [] := by kernel_rfl
theorem goes7 : false = Rows.heatBegunRow.goesBy Tryd.pinned.checked.prog := by kernel_rfl
theorem stand7 : ([24, 5, 63, 5].all fun u => !Tryd.prog.wantsStandIn u) = true := by kernel_rfl
/-- THE STATEMENT: THE TIED CARD. -/
theorem proved : Rows.HeatBegunCardSaid :=
  Claim7.holds_tied_plain_at .later [] [.data, .pinned] true (true, "bc8726acb983071f89b62a2fe24b8370b29588b2cbc97bd97225a90a22e5b3c7") false over (fun _ h => by cases h) wf7 (fun _ h => by cases h) heatBegun_row_tie rfl ⟨rfl, rfl⟩ main7 rfl
    (fun f fn hf hfn => by
      obtain rfl : f = 15 := Option.some.inj (fnNamed.symm.trans hf) |>.symm
      obtain rfl : fn = Tryd.f15 := (Option.some.inj (Tryd.func15.symm.trans hfn)).symm
      exact ⟨looks7, fun j t ht => by
        rw [Tryd.params15] at ht
        have hm : t ∈ [24, 5, 63, 5] := by have := Array.mem_of_getElem? ht; simpa using this
        exact (show Tryd.prog.wantsStandIn t = false by simpa using List.all_eq_true.1 stand7 t hm)⟩)
    goes7
#print axioms proved
end Go.Proofs.YtafemfjhflfdeaaDoor.heatBegun
