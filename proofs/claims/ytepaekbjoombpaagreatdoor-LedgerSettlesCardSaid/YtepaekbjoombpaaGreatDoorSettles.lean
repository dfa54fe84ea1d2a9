/- LedgerSettles returns true, its card tied to the program's text. Whatever the input, the listed variables laid as the text lays them: no other condition. -/
import Derived.Test.YtepaekbjoombpaaGreatDoorRows
import Derived.Test.YtepaekbjoombpaaGreatDoorCards
import Derived.Test.YtepaekbjoombpaaGreatDoorTie
import Derived.Test.YtepaekbjoombpaaGreatDoorPE14
import Derived.ProofKit
import Derived.OpenShut
import Derived.LaidMore
import Derived.Lay
import Derived.SevenTiedAt
import Derived.Stop.Joined
namespace Go.Proofs.YtepaekbjoombpaaGreatDoor.ledgerSettles
open Go Go.Proofs Go.ChangeShapes Go.WideShapes Go.ChangeAt Go.RowKit Go.Run
set_option maxRecDepth 100000
set_option linter.unnecessarySimpa false

theorem andT {a b : Bool} (h : a = true) (k : b = true) : (a && b) = true := by rw [h, k]; rfl
theorem j0 : ( Rows.ledgerSettlesRow.wf (OpenSpec.ofChange Rows.ledgerSettlesSpec)) = true := by kernel_rfl
theorem j1 : (laidOutB Tryz.prog) = true := by kernel_rfl
theorem j2 : (mapsRowed Tryz.prog) = true := by kernel_rfl
theorem j3 : (Tryz.f15.params.all (Tryz.prog.readableRec ·)) = true := by kernel_rfl
theorem j4 : (namedTie Tryz.prog  Rows.ledgerSettlesRow.named Rows.ledgerSettlesSpec.vars) = true := by kernel_rfl
theorem j5 : (( Rows.ledgerSettlesRow.stops == [])) = true := by kernel_rfl
theorem j6 : ((Tryz.prog.stops == [])) = true := by kernel_rfl
theorem j7 : (( Rows.ledgerSettlesRow.knobs == [])) = true := by kernel_rfl
theorem j8 : ((Tryz.prog.stopKnobs == [])) = true := by kernel_rfl
theorem j9 : (( Rows.ledgerSettlesRow.inPlace == Tryz.prog.inPlace 15)) = true := by kernel_rfl
theorem j10 : (( Rows.ledgerSettlesRow.unfollowed == Tryz.prog.unfollowed 15)) = true := by kernel_rfl
theorem j11 : (( Rows.ledgerSettlesRow.recurses == Tryz.prog.recurses 15)) = true := by kernel_rfl
theorem j12 : (( Rows.ledgerSettlesRow.named == Tryz.prog.varsNamed 15)) = true := by kernel_rfl
theorem j13 : (( Rows.ledgerSettlesRow.maps == (Tryz.f15.params.toList ++ Rows.ledgerSettlesSpec.plain.varTypes Tryz.prog).any (Tryz.prog.mapsRec ·))) = true := by kernel_rfl
theorem j14 : (( Rows.ledgerSettlesRow.ifaces == (Tryz.f15.params.toList ++ Rows.ledgerSettlesSpec.plain.varTypes Tryz.prog).any (Tryz.prog.ifacesRec ·))) = true := by kernel_rfl
theorem j15 : (( Rows.ledgerSettlesRow.mapsOut == Tryz.prog.mapsAmong Tryz.f15.resultTypes.toList)) = true := by kernel_rfl
theorem j16 : (( Rows.ledgerSettlesRow.loops == (Tryz.f15.params.toList ++ Rows.ledgerSettlesSpec.plain.varTypes Tryz.prog).any (Tryz.prog.loopsFrom ·))) = true := by kernel_rfl
theorem j17 : (( Rows.ledgerSettlesRow.wideKeys == (Tryz.f15.params.toList ++ Rows.ledgerSettlesSpec.plain.varTypes Tryz.prog ++ Tryz.f15.resultTypes.toList).any (Tryz.prog.wideKeysFrom ·))) = true := by kernel_rfl
theorem j18 : (Rows.ledgerSettlesSpec.vars.all (Tryz.prog.varReadable ·)) = true := by kernel_rfl
theorem j19 : (Tryz.f15.resultTypes.all (fun t => Tryz.prog.readableRec t && decide (t < Tryz.prog.types.size))) = true := by kernel_rfl
theorem j20 : (( Rows.ledgerSettlesRow.ifacesOut == Tryz.f15.resultTypes.toList.any (Tryz.prog.ifacesRec ·))) = true := by kernel_rfl
theorem j21 : (( Rows.ledgerSettlesRow.loopsOut == Tryz.f15.resultTypes.toList.any (Tryz.prog.loopsFrom ·))) = true := by kernel_rfl
theorem j22 : (( Rows.ledgerSettlesRow.plainKeys == Tryz.prog.plainKeys)) = true := by kernel_rfl
theorem j23 : ( Rows.ledgerSettlesRow.shortTexts.isNone) = true := by kernel_rfl
theorem j24 : (Tryz.prog.stopsHeard) = true := by kernel_rfl
theorem j25 : (Tryz.prog.mayEnter) = true := by kernel_rfl
theorem j26 : (( Rows.ledgerSettlesRow.lifted == Tryz.prog.liftsFinal)) = true := by kernel_rfl
theorem j27 : ((Tryz.prog.make == some  Rows.ledgerSettlesRow.make)) = true := by kernel_rfl
theorem j28 : (( Rows.ledgerSettlesRow.kinds == (if  Rows.ledgerSettlesRow.domain.isEmpty then [] else Tryz.f15.params.toList.map fun t => match Tryz.prog.underlying t with | some (.int k) => some k | _ => none))) = true := by kernel_rfl
theorem j29 : (( Rows.ledgerSettlesRow.pinned ==  Rows.ledgerSettlesRow.pinnedBy)) = true := by kernel_rfl
theorem j30 : (( Rows.ledgerSettlesRow.veiled == (Tryz.f15.params.toList ++ Rows.ledgerSettlesSpec.plain.varTypes Tryz.prog ++ Tryz.f15.resultTypes.toList).any (Tryz.prog.veiledRec ·))) = true := by kernel_rfl
theorem j31 : ( Rows.ledgerSettlesRow.veiledFits Tryz.prog Tryz.f15.params.toList (Tryz.f15.params.toList ++ Rows.ledgerSettlesSpec.plain.varTypes Tryz.prog ++ Tryz.f15.resultTypes.toList)) = true := by kernel_rfl
theorem closed : joinedFacts Tryz.prog 15 Tryz.f15 Rows.ledgerSettlesSpec Rows.ledgerSettlesRow = true := (andT (andT (andT (andT (andT (andT (andT (andT (andT (andT (andT (andT (andT (andT (andT (andT (andT (andT (andT (andT (andT (andT (andT (andT (andT (andT (andT (andT (andT (andT (andT j0 j1) j2) j3) j4) j5) j6) j7) j8) j9) j10) j11) j12) j13) j14) j15) j16) j17) j18) j19) j20) j21) j22) j23) j24) j25) j26) j27) j28) j29) j30) j31)
theorem fnNamed : Tryz.prog.funcNamed "porringer/porringerlaw12.LedgerSettles" = some 15 := by kernel_rfl
theorem wrap : Tryz.f15.isWrapper Tryz.prog Rows.ledgerSettlesRow.wrapper Rows.ledgerSettlesRow.mainSum := by
  unfold Func.isWrapper; first | (rw [if_pos (by decide +kernel)]; kernel_rfl) | (rw [if_neg (by decide +kernel)]; exact ⟨rfl, rfl⟩)
theorem inst : Tryz.f15.isInstance Tryz.prog Rows.ledgerSettlesRow.origin Rows.ledgerSettlesRow.targs := of_decide_eq_true (by kernel_rfl)
theorem own : ownKnob Tryz.prog.godebug = none := by kernel_rfl
theorem laidOut : laidOutB Tryz.prog = true := by kernel_rfl
theorem lifted (os : Os) (started : os.Started) (H : Type) (enc : TypeId × Value → H) :
    ReturnsInHanded {} Tryz.checked os 15 .any (fun w args => (Rows.ledgerSettlesSpec.pre enc Tryz.prog Tryz.f15 Rows.ledgerSettlesRow.domain false w args ∧ laidMetH Tryz.prog Rows.ledgerSettlesRow.laid w) ∧ sizedMet enc Tryz.prog Tryz.f15 (OpenSpec.ofChange Rows.ledgerSettlesSpec) false w args)
      (Rows.ledgerSettlesSpec.post enc Tryz.prog Tryz.f15 false true false false) := by
  refine returnsInHanded_of_change_and (C := Tryz.checked) (X := fun w _ => laidMetH Tryz.prog Rows.ledgerSettlesRow.laid w) (fun _ _ _ hh h => h.of_heap hh) own started (by kernel_rfl) Tryz.func15
    (ChangeSpec.witness_shaped (enc := enc) (C := Tryz.checked) (os := os) (X := fun w _ => laidMetH Tryz.prog Rows.ledgerSettlesRow.laid w) false (World.laidAll Tryz.prog os Rows.ledgerSettlesRow.laid) #[.agg #[.int .i64 0, .int .i64 0, .slice none 0 0], .int .i64 0, .slice none 0 0, .slice none 0 0] 8 (World.laidAll_os _ _ _)
      (World.shaped_of_ZipB (by kernel_rfl) (by kernel_rfl)) (by kernel_rfl) (by kernel_rfl) (by kernel_rfl)
      (by rw [MakeChecks.laidMetH_plain _ _ _ (by kernel_rfl)]; exact laidMet_laidAll _ (by kernel_rfl) (by kernel_rfl))) ?_
  intro W base args ds gs before hval0 hW hcnd _ hL _
  have hval : ∀ (j : Nat) t v, Tryz.f15.params[j]? = some t → args[j]? = some v → Value.okWide Tryz.prog W .any base t v := hval0
  have hW' := hW
  obtain ⟨p, q, hA0, hV, rfl, hfz, hnd⟩ := hW
  have hA : DataW.TrodAll enc Tryz.prog W 0 (fun _ => true) true Tryz.f15.params.toList args.toList ds p := hA0
  have hA1 := hA
  have hlt : ∀ y ∈ p, y.block < W.heap.size := fun y hy => hW'.lt y (by simp [hy])
  rw [Tryz.params15] at hA hval
  obtain ⟨v0, v1, v2, v3, d0, d1, d2, d3, p0, p1, p2, p3, rfl, rfl, rfl, h0, h1, h2, h3⟩ := trodAll_four hA
  obtain ⟨rfl, rfl⟩ := trodVars_none hV
  obtain ⟨ac0, cl0, a0, m0, c0, es0, rfl, B0, N0⟩ := open_book (hval 0 24 _ rfl rfl) h0
  obtain ⟨n1, rfl, rfl, rfl, w1⟩ := open_int Tryz.underlying3 (hval 1 3 _ rfl rfl) h1
  obtain ⟨a2, m2, c2, qs2, rfl, P2, N2⟩ := open_pays (hval 2 77 _ rfl rfl) h2
  obtain ⟨a3, m3, c3, T3, gs3, rfl, R3, N3, L3⟩ := open_lists (hval 3 73 _ rfl rfl) h3
  clear hA0 hval0
  simp only [List.append_nil] at hW' hA1 hlt
  refine (Go.Eng.calls_ext (settles15 ac0 cl0 a0 m0 c0 es0 n1 a2 m2 c2 qs2 a3 m3 c3 T3 gs3 W.heap B0 N0 P2 N2 R3 N3 L3)).mono fun e W' ⟨he, hx, hr⟩ => ?_
  subst he
  exact ⟨_, rfl, post_kept (pv := []) hW' (fun _ _ _ => (trodAll_cons_mk (shut_bool Tryz.underlying4 _) trodAll_mk0)) (fun sp hs => Go.Eng.trodAll_ext laidOut hx (by kernel_rfl) hA1 hlt hs) (fun _ _ => rfl) (by simp) (Go.Run.kept_of hx hr)⟩
theorem over : Rows.LedgerSettlesSaid :=
  OpenClaim.holds_of_wide 15 Tryz.f15 rfl rfl rfl rfl rfl rfl rfl ⟨rfl, rfl, rfl, rfl, rfl⟩ rfl rfl rfl rfl rfl fnNamed Tryz.func15 closed inst wrap
    (fun os started H enc _ => lifted os started H enc)
theorem wf7 : Rows.ledgerSettlesRow.wfByText (OpenSpec.ofChange Rows.ledgerSettlesSpec) = true := by kernel_rfl
theorem main7 : Tryz.pinned.checked.prog.mainIs = some ((true, "2aa3340013a6fad92cf2575ce3a21ef53df19b5cf3bf92be2ab210bb05281df7").1, (true, "2aa3340013a6fad92cf2575ce3a21ef53df19b5cf3bf92be2ab210bb05281df7").2.toList) := by kernel_rfl
theorem looks7 : true = Tryz.prog.looks [] := by kernel_rfl
theorem goes7 : false = Rows.ledgerSettlesRow.goesBy Tryz.pinned.checked.prog := by kernel_rfl
theorem stand7 : ([24, 3, 77, 73].all fun u => !Tryz.prog.wantsStandIn u) = true := by kernel_rfl
/-- THE STATEMENT: THE TIED CARD. -/
theorem proved : Rows.LedgerSettlesCardSaid :=
  Claim7.holds_tied_plain_at .later [] [.data, .data, .data, .data, .sentinel, .sentinel, .pinned] true (true, "2aa3340013a6fad92cf2575ce3a21ef53df19b5cf3bf92be2ab210bb05281df7") true over (fun _ h => by cases h) wf7 (fun _ h => by cases h) ledgerSettles_row_tie rfl ⟨rfl, rfl⟩ main7 rfl
    (fun f fn hf hfn => by
      obtain rfl : f = 15 := Option.some.inj (fnNamed.symm.trans hf) |>.symm
      obtain rfl : fn = Tryz.f15 := (Option.some.inj (Tryz.func15.symm.trans hfn)).symm
      exact ⟨looks7, fun j t ht => by
        rw [Tryz.params15] at ht
        have hm : t ∈ [24, 3, 77, 73] := by have := Array.mem_of_getElem? ht; simpa using this
        exact (show Tryz.prog.wantsStandIn t = false by simpa using List.all_eq_true.1 stand7 t hm)⟩)
    goes7
#print axioms proved
end Go.Proofs.YtepaekbjoombpaaGreatDoor.ledgerSettles
