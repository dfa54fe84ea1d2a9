/- HeatSurely returns true, its card tied to the program's text. Whatever the input, the listed variables laid as the text lays them: no other condition. -/
import Derived.Test.YtafemfjhflfdeaaDoorRows
import Derived.Test.YtafemfjhflfdeaaDoorCards
import Derived.Test.YtafemfjhflfdeaaDoorTie
import Derived.Test.YtafemfjhflfdeaaDoorPBQH44
import Derived.Test.YtafemfjhflfdeaaDoorPB13
import Derived.ProofKit
import Derived.OpenShut
import Derived.LaidMore
import Derived.Lay
import Derived.SevenTiedAt
import Derived.Stop.Joined
namespace Go.Proofs.YtafemfjhflfdeaaDoor.heatSurely
open Go Go.Proofs Go.ChangeShapes Go.WideShapes Go.ChangeAt Go.RowKit Go.Run
set_option maxRecDepth 100000

theorem trodAll_six {H : Type} {enc : TypeId × Value → H} {P : Program} {w : World} {base : Nat} {spare : Nat → Bool} {held : Bool} {t0 t1 t2 t3 t4 t5 : TypeId} {args : Array Value} {ds : List (DataW H)} {ps : List MemPlace} (h : DataW.TrodAll enc P w base spare held [t0, t1, t2, t3, t4, t5] args.toList ds ps) :
    ∃ v0 v1 v2 v3 v4 v5 d0 d1 d2 d3 d4 d5 p0 p1 p2 p3 p4 p5, args = #[v0, v1, v2, v3, v4, v5] ∧ ds = [d0, d1, d2, d3, d4, d5] ∧ ps = p0 ++ p1 ++ p2 ++ p3 ++ p4 ++ p5 ∧ DataW.Trod enc P w base spare held t0 v0 d0 p0 ∧ DataW.Trod enc P w base spare held t1 v1 d1 p1 ∧ DataW.Trod enc P w base spare held t2 v2 d2 p2 ∧ DataW.Trod enc P w base spare held t3 v3 d3 p3 ∧ DataW.Trod enc P w base spare held t4 v4 d4 p4 ∧ DataW.Trod enc P w base spare held t5 v5 d5 p5 := by
  obtain ⟨v0, vs0, d0, ds0, p0, q0, hargs, rfl, rfl, hd0, hr0⟩ := trodAll_cons h
  obtain ⟨v1, vs1, d1, ds1, p1, q1, rfl, rfl, rfl, hd1, hr1⟩ := trodAll_cons hr0
  obtain ⟨v2, vs2, d2, ds2, p2, q2, rfl, rfl, rfl, hd2, hr2⟩ := trodAll_cons hr1
  obtain ⟨v3, vs3, d3, ds3, p3, q3, rfl, rfl, rfl, hd3, hr3⟩ := trodAll_cons hr2
  obtain ⟨v4, vs4, d4, ds4, p4, q4, rfl, rfl, rfl, hd4, hr4⟩ := trodAll_cons hr3
  obtain ⟨v5, vs5, d5, ds5, p5, q5, rfl, rfl, rfl, hd5, hr5⟩ := trodAll_cons hr4
  obtain ⟨rfl, rfl, rfl⟩ := trodAll_nil hr5
  exact ⟨v0, v1, v2, v3, v4, v5, d0, d1, d2, d3, d4, d5, p0, p1, p2, p3, p4, p5, by cases args; simp_all, rfl, by simp, hd0, hd1, hd2, hd3, hd4, hd5⟩
theorem andT {a b : Bool} (h : a = true) (k : b = true) : (a && b) = true := by rw [h, k]; rfl
theorem j0 : ( Rows.heatSurelyRow.wf (OpenSpec.ofChange Rows.heatSurelySpec)) = true := by kernel_rfl
theorem j1 : (laidOutB Tryd.prog) = true := by kernel_rfl
theorem j2 : (mapsRowed Tryd.prog) = true := by kernel_rfl
theorem j3 : (Tryd.f14.params.all (Tryd.prog.readableRec ·)) = true := by kernel_rfl
theorem j4 : (namedTie Tryd.prog  Rows.heatSurelyRow.named Rows.heatSurelySpec.vars) = true := by kernel_rfl
theorem j5 : (( Rows.heatSurelyRow.stops == [])) = true := by kernel_rfl
theorem j6 : ((Tryd.prog.stops == [])) = true := by kernel_rfl
theorem j7 : (( Rows.heatSurelyRow.knobs == [])) = true := by kernel_rfl
theorem j8 : ((Tryd.prog.stopKnobs == [])) = true := by kernel_rfl
theorem j9 : (( Rows.heatSurelyRow.inPlace == Tryd.prog.inPlace 14)) = true := by kernel_rfl
theorem j10 : (( Rows.heatSurelyRow.unfollowed == Tryd.prog.unfollowed 14)) = true := by kernel_rfl
theorem j11 : (( Rows.heatSurelyRow.recurses == Tryd.prog.recurses 14)) = true := by kernel_rfl
theorem j12 : (( Rows.heatSurelyRow.named == Tryd.prog.varsNamed 14)) = true := by kernel_rfl
theorem j13 : (( Rows.heatSurelyRow.maps == (Tryd.f14.params.toList ++ Rows.heatSurelySpec.plain.varTypes Tryd.prog).any (Tryd.prog.mapsRec ·))) = true := by kernel_rfl
theorem j14 : (( Rows.heatSurelyRow.ifaces == (Tryd.f14.params.toList ++ Rows.heatSurelySpec.plain.varTypes Tryd.prog).any (Tryd.prog.ifacesRec ·))) = true := by kernel_rfl
theorem j15 : (( Rows.heatSurelyRow.mapsOut == Tryd.prog.mapsAmong Tryd.f14.resultTypes.toList)) = true := by kernel_rfl
theorem j16 : (( Rows.heatSurelyRow.loops == (Tryd.f14.params.toList ++ Rows.heatSurelySpec.plain.varTypes Tryd.prog).any (Tryd.prog.loopsFrom ·))) = true := by kernel_rfl
theorem j17 : (( Rows.heatSurelyRow.wideKeys == (Tryd.f14.params.toList ++ Rows.heatSurelySpec.plain.varTypes Tryd.prog ++ Tryd.f14.resultTypes.toList).any (Tryd.prog.wideKeysFrom ·))) = true := by kernel_rfl
theorem j18 : (Rows.heatSurelySpec.vars.all (Tryd.prog.varReadable ·)) = true := by kernel_rfl
theorem j19 : (Tryd.f14.resultTypes.all (fun t => Tryd.prog.readableRec t && decide (t < Tryd.prog.types.size))) = true := by kernel_rfl
theorem j20 : (( Rows.heatSurelyRow.ifacesOut == Tryd.f14.resultTypes.toList.any (Tryd.prog.ifacesRec ·))) = true := by kernel_rfl
theorem j21 : (( Rows.heatSurelyRow.loopsOut == Tryd.f14.resultTypes.toList.any (Tryd.prog.loopsFrom ·))) = true := by kernel_rfl
theorem j22 : (( Rows.heatSurelyRow.plainKeys == Tryd.prog.plainKeys)) = true := by kernel_rfl
theorem j23 : ( Rows.heatSurelyRow.shortTexts.isNone) = true := by kernel_rfl
theorem j24 : (Tryd.prog.stopsHeard) = true := by kernel_rfl
theorem j25 : (Tryd.prog.mayEnter) = true := by kernel_rfl
theorem j26 : (( Rows.heatSurelyRow.lifted == Tryd.prog.liftsFinal)) = true := by kernel_rfl
theorem j27 : ((Tryd.prog.make == some  Rows.heatSurelyRow.make)) = true := by kernel_rfl
theorem j28 : (( Rows.heatSurelyRow.kinds == (if  Rows.heatSurelyRow.domain.isEmpty then [] else Tryd.f14.params.toList.map fun t => match Tryd.prog.underlying t with | some (.int k) => some k | _ => none))) = true := by kernel_rfl
theorem j29 : (( Rows.heatSurelyRow.pinned ==  Rows.heatSurelyRow.pinnedBy)) = true := by kernel_rfl
theorem j30 : (( Rows.heatSurelyRow.veiled == (Tryd.f14.params.toList ++ Rows.heatSurelySpec.plain.varTypes Tryd.prog ++ Tryd.f14.resultTypes.toList).any (Tryd.prog.veiledRec ·))) = true := by kernel_rfl
theorem j31 : ( Rows.heatSurelyRow.veiledFits Tryd.prog Tryd.f14.params.toList (Tryd.f14.params.toList ++ Rows.heatSurelySpec.plain.varTypes Tryd.prog ++ Tryd.f14.resultTypes.toList)) = true := by kernel_rfl
theorem closed : joinedFacts Tryd.prog 14 Tryd.f14 Rows.heatSurelySpec Rows.heatSurelyRow = true := (andT (andT (andT (andT (andT (andT (andT (andT (andT (andT (andT (andT (andT (andT (andT (andT (andT (andT (andT (andT (andT (andT (andT (andT (andT (andT (andT (andT (andT (andT (andT j0 j1) j2) j3) j4) j5) j6) j7) j8) j9) j10) j11) j12) j13) j14) j15) j16) j17) j18) j19) j20) j21) j22) j23) j24) j25) j26) j27) j28) j29) j30) j31)
theorem fnNamed : Tryd.prog.funcNamed "porringer/porringerlaw07.HeatSurely" = some 14 := by kernel_rfl
theorem wrap : Tryd.f14.isWrapper Tryd.prog Rows.heatSurelyRow.wrapper Rows.heatSurelyRow.mainSum := by
  unfold Func.isWrapper; first | (rw [if_pos (by decide +kernel)]; kernel_rfl) | (rw [if_neg (by decide +kernel)]; exact ⟨rfl, rfl⟩)
theorem inst : Tryd.f14.isInstance Tryd.prog Rows.heatSurelyRow.origin Rows.heatSurelyRow.targs := of_decide_eq_true (by kernel_rfl)
theorem own : ownKnob Tryd.prog.godebug = none := by kernel_rfl
theorem laidOut : laidOutB Tryd.prog = true := by kernel_rfl
theorem lifted (os : Os) (started : os.Started) (H : Type) (enc : TypeId × Value → H) :
    ReturnsInHanded {} Tryd.checked os 14 .any (fun w args => (Rows.heatSurelySpec.pre enc Tryd.prog Tryd.f14 Rows.heatSurelyRow.domain false w args ∧ laidMetH Tryd.prog Rows.heatSurelyRow.laid w) ∧ sizedMet enc Tryd.prog Tryd.f14 (OpenSpec.ofChange Rows.heatSurelySpec) false w args)
      (Rows.heatSurelySpec.post enc Tryd.prog Tryd.f14 false true false false) := by
  refine returnsInHanded_of_change_and (C := Tryd.checked) (X := fun w _ => laidMetH Tryd.prog Rows.heatSurelyRow.laid w) (fun _ _ _ hh h => h.of_heap hh) own started (by kernel_rfl) Tryd.func14
    (ChangeSpec.witness_shaped (enc := enc) (C := Tryd.checked) (os := os) (X := fun w _ => laidMetH Tryd.prog Rows.heatSurelyRow.laid w) false (World.laidAll Tryd.prog os Rows.heatSurelyRow.laid) #[.agg #[.slice none 0 0, .slice none 0 0, .int .i64 0, .int .i64 0], .int .u8 0, .int .u8 0, .int .u8 0, .int .u8 0, .slice none 0 0] 8 (World.laidAll_os _ _ _)
      (World.shaped_of_ZipB (by kernel_rfl) (by kernel_rfl)) (by kernel_rfl) (by kernel_rfl) (by kernel_rfl)
      (by rw [MakeChecks.laidMetH_plain _ _ _ (by kernel_rfl)]; exact laidMet_laidAll _ (by kernel_rfl) (by kernel_rfl))) ?_
  intro W base args ds gs before hval0 hW hcnd _ hL _
  have hval : ∀ (j : Nat) t v, Tryd.f14.params[j]? = some t → args[j]? = some v → Value.okWide Tryd.prog W .any base t v := hval0
  have hW' := hW
  obtain ⟨p, q, hA0, hV, rfl, hfz, hnd⟩ := hW
  have hA : DataW.TrodAll enc Tryd.prog W 0 (fun _ => true) true Tryd.f14.params.toList args.toList ds p := hA0
  have hA1 := hA
  have hlt : ∀ y ∈ p, y.block < W.heap.size := fun y hy => hW'.lt y (by simp [hy])
  rw [Tryd.params14] at hA hval
  obtain ⟨v0, v1, v2, v3, v4, v5, d0, d1, d2, d3, d4, d5, p0, p1, p2, p3, p4, p5, rfl, rfl, rfl, h0, h1, h2, h3, h4, h5⟩ := trodAll_six hA
  obtain ⟨rfl, rfl⟩ := trodVars_none hV
  obtain ⟨m0, rfl, I0, J0⟩ := open_mould (hval 0 24 _ rfl rfl) h0
  obtain ⟨n1, rfl, rfl, rfl, w1⟩ := open_int Tryd.underlying5 (hval 1 5 _ rfl rfl) h1
  obtain ⟨n2, rfl, rfl, rfl, w2⟩ := open_int Tryd.underlying5 (hval 2 5 _ rfl rfl) h2
  obtain ⟨n3, rfl, rfl, rfl, w3⟩ := open_int Tryd.underlying5 (hval 3 5 _ rfl rfl) h3
  obtain ⟨n4, rfl, rfl, rfl, w4⟩ := open_int Tryd.underlying5 (hval 4 5 _ rfl rfl) h4
  obtain ⟨a5, m5, c5, xs5, rfl, N5, B5, M5, X5⟩ := Go.Eng.open_bytes Tryd.underlying63 Tryd.underlying5 (by kernel_rfl) (hval 5 63 _ rfl rfl) h5
  clear hA0 hval0
  simp only [List.append_nil] at hW' hA1 hlt
  refine (Go.Eng.calls_ext (surely14 m0 n1 n2 n3 n4 a5 m5 c5 xs5 W.heap I0 J0 (Go.bounds_u8 w1) (Go.bounds_u8 w2) (Go.bounds_u8 w3) (Go.bounds_u8 w4) N5 B5 M5 X5)).mono fun e W' ⟨he, hx, hr⟩ => ?_
  subst he
  exact ⟨_, rfl, post_kept (pv := []) hW' (fun _ _ _ => (trodAll_cons_mk (shut_bool Tryd.underlying4 _) trodAll_mk0)) (fun sp hs => Go.Eng.trodAll_ext laidOut hx (by kernel_rfl) hA1 hlt hs) (fun _ _ => rfl) (by simp) (Go.Run.kept_of hx hr)⟩
theorem over : Rows.HeatSurelySaid :=
  OpenClaim.holds_of_wide 14 Tryd.f14 rfl rfl rfl rfl rfl rfl rfl ⟨rfl, rfl, rfl, rfl, rfl⟩ rfl rfl rfl rfl rfl fnNamed Tryd.func14 closed inst wrap
    (fun os started H enc _ => lifted os started H enc)
theorem wf7 : Rows.heatSurelyRow.wfByText (OpenSpec.ofChange Rows.heatSurelySpec) = true := by kernel_rfl
theorem main7 : Tryd.pinned.checked.prog.mainIs = some ((true, "bc8726acb983071f89b62a2fe24b8370b29588b2cbc97bd97225a90a22e5b3c7").1, (true, "bc8726acb983071f89b62a2fe24b8370b29588b2cbc97bd97225a90a22e5b3c7").2.toList) := by kernel_rfl
theorem looks7 : false = Tryd.prog.looks [] := by kernel_rfl
theorem goes7 : false = Rows.heatSurelyRow.goesBy Tryd.pinned.checked.prog := by kernel_rfl
theorem stand7 : ([24, 5, 5, 5, 5, 63].all fun u => !Tryd.prog.wantsStandIn u) = true := by kernel_rfl
/-- THE STATEMENT: THE TIED CARD. -/
theorem proved : Rows.HeatSurelyCardSaid :=
  Claim7.holds_tied_plain_at .later [] [.data, .pinned] true (true, "bc8726acb983071f89b62a2fe24b8370b29588b2cbc97bd97225a90a22e5b3c7") false over (fun _ h => by cases h) wf7 (fun _ h => by cases h) heatSurely_row_tie rfl ⟨rfl, rfl⟩ main7 rfl
    (fun f fn hf hfn => by
      obtain rfl : f = 14 := Option.some.inj (fnNamed.symm.trans hf) |>.symm
      obtain rfl : fn = Tryd.f14 := (Option.some.inj (Tryd.func14.symm.trans hfn)).symm
      exact ⟨looks7, fun j t ht => by
        rw [Tryd.params14] at ht
        have hm : t ∈ [24, 5, 5, 5, 5, 63] := by have := Array.mem_of_getElem? ht; simpa using this
        exact (show Tryd.prog.wantsStandIn t = false by simpa using List.all_eq_true.1 stand7 t hm)⟩)
    goes7
#print axioms proved
end Go.Proofs.YtafemfjhflfdeaaDoor.heatSurely
