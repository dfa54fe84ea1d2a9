/- LedgerClosed returns true, its card tied to the program's text. Whatever the input, the listed variables laid as the text lays them: no other condition. -/
import Derived.Test.YtepaekbjoombpaaGreatDoorRows
import Derived.Test.YtepaekbjoombpaaGreatDoorCards
import Derived.Test.YtepaekbjoombpaaGreatDoorTie
import Derived.Test.YtepaekbjoombpaaGreatDoorE3
import Derived.Test.YtepaekbjoombpaaGreatDoorOpenC
import Derived.Test.YtepaekbjoombpaaGreatDoorEngR
import Derived.ProofKit
import Derived.OpenShut
import Derived.LaidMore
import Derived.Lay
import Derived.SevenTiedAt
import Derived.Stop.Joined
namespace Go.Proofs.YtepaekbjoombpaaGreatDoor.ledgerClosed
open Go Go.Proofs Go.ChangeShapes Go.WideShapes Go.ChangeAt Go.RowKit Go.Run
set_option maxRecDepth 100000

theorem trodAll_five {H : Type} {enc : TypeId × Value → H} {P : Program} {w : World} {base : Nat} {spare : Nat → Bool} {held : Bool} {t0 t1 t2 t3 t4 : TypeId} {args : Array Value} {ds : List (DataW H)} {ps : List MemPlace} (h : DataW.TrodAll enc P w base spare held [t0, t1, t2, t3, t4] args.toList ds ps) :
    ∃ v0 v1 v2 v3 v4 d0 d1 d2 d3 d4 p0 p1 p2 p3 p4, args = #[v0, v1, v2, v3, v4] ∧ ds = [d0, d1, d2, d3, d4] ∧ ps = p0 ++ p1 ++ p2 ++ p3 ++ p4 ∧ DataW.Trod enc P w base spare held t0 v0 d0 p0 ∧ DataW.Trod enc P w base spare held t1 v1 d1 p1 ∧ DataW.Trod enc P w base spare held t2 v2 d2 p2 ∧ DataW.Trod enc P w base spare held t3 v3 d3 p3 ∧ DataW.Trod enc P w base spare held t4 v4 d4 p4 := by
  obtain ⟨v0, vs0, d0, ds0, p0, q0, hargs, rfl, rfl, hd0, hr0⟩ := trodAll_cons h
  obtain ⟨v1, vs1, d1, ds1, p1, q1, rfl, rfl, rfl, hd1, hr1⟩ := trodAll_cons hr0
  obtain ⟨v2, vs2, d2, ds2, p2, q2, rfl, rfl, rfl, hd2, hr2⟩ := trodAll_cons hr1
  obtain ⟨v3, vs3, d3, ds3, p3, q3, rfl, rfl, rfl, hd3, hr3⟩ := trodAll_cons hr2
  obtain ⟨v4, vs4, d4, ds4, p4, q4, rfl, rfl, rfl, hd4, hr4⟩ := trodAll_cons hr3
  obtain ⟨rfl, rfl, rfl⟩ := trodAll_nil hr4
  exact ⟨v0, v1, v2, v3, v4, d0, d1, d2, d3, d4, p0, p1, p2, p3, p4, by cases args; simp_all, rfl, by simp, hd0, hd1, hd2, hd3, hd4⟩
theorem andT {a b : Bool} (h : a = true) (k : b = true) : (a && b) = true := by rw [h, k]; rfl
theorem j0 : ( Rows.ledgerClosedRow.wf (OpenSpec.ofChange Rows.ledgerClosedSpec)) = true := by kernel_rfl
theorem j1 : (laidOutB Tryz.prog) = true := by kernel_rfl
theorem j2 : (mapsRowed Tryz.prog) = true := by kernel_rfl
theorem j3 : (Tryz.f9.params.all (Tryz.prog.readableRec ·)) = true := by kernel_rfl
theorem j4 : (namedTie Tryz.prog  Rows.ledgerClosedRow.named Rows.ledgerClosedSpec.vars) = true := by kernel_rfl
theorem j5 : (( Rows.ledgerClosedRow.stops == [])) = true := by kernel_rfl
theorem j6 : ((Tryz.prog.stops == [])) = true := by kernel_rfl
theorem j7 : (( Rows.ledgerClosedRow.knobs == [])) = true := by kernel_rfl
theorem j8 : ((Tryz.prog.stopKnobs == [])) = true := by kernel_rfl
theorem j9 : (( Rows.ledgerClosedRow.inPlace == Tryz.prog.inPlace 9)) = true := by kernel_rfl
theorem j10 : (( Rows.ledgerClosedRow.unfollowed == Tryz.prog.unfollowed 9)) = true := by kernel_rfl
theorem j11 : (( Rows.ledgerClosedRow.recurses == Tryz.prog.recurses 9)) = true := by kernel_rfl
theorem j12 : (( Rows.ledgerClosedRow.named == Tryz.prog.varsNamed 9)) = true := by kernel_rfl
theorem j13 : (( Rows.ledgerClosedRow.maps == (Tryz.f9.params.toList ++ Rows.ledgerClosedSpec.plain.varTypes Tryz.prog).any (Tryz.prog.mapsRec ·))) = true := by kernel_rfl
theorem j14 : (( Rows.ledgerClosedRow.ifaces == (Tryz.f9.params.toList ++ Rows.ledgerClosedSpec.plain.varTypes Tryz.prog).any (Tryz.prog.ifacesRec ·))) = true := by kernel_rfl
theorem j15 : (( Rows.ledgerClosedRow.mapsOut == Tryz.prog.mapsAmong Tryz.f9.resultTypes.toList)) = true := by kernel_rfl
theorem j16 : (( Rows.ledgerClosedRow.loops == (Tryz.f9.params.toList ++ Rows.ledgerClosedSpec.plain.varTypes Tryz.prog).any (Tryz.prog.loopsFrom ·))) = true := by kernel_rfl
theorem j17 : (( Rows.ledgerClosedRow.wideKeys == (Tryz.f9.params.toList ++ Rows.ledgerClosedSpec.plain.varTypes Tryz.prog ++ Tryz.f9.resultTypes.toList).any (Tryz.prog.wideKeysFrom ·))) = true := by kernel_rfl
theorem j18 : (Rows.ledgerClosedSpec.vars.all (Tryz.prog.varReadable ·)) = true := by kernel_rfl
theorem j19 : (Tryz.f9.resultTypes.all (fun t => Tryz.prog.readableRec t && decide (t < Tryz.prog.types.size))) = true := by kernel_rfl
theorem j20 : (( Rows.ledgerClosedRow.ifacesOut == Tryz.f9.resultTypes.toList.any (Tryz.prog.ifacesRec ·))) = true := by kernel_rfl
theorem j21 : (( Rows.ledgerClosedRow.loopsOut == Tryz.f9.resultTypes.toList.any (Tryz.prog.loopsFrom ·))) = true := by kernel_rfl
theorem j22 : (( Rows.ledgerClosedRow.plainKeys == Tryz.prog.plainKeys)) = true := by kernel_rfl
theorem j23 : ( Rows.ledgerClosedRow.shortTexts.isNone) = true := by kernel_rfl
theorem j24 : (Tryz.prog.stopsHeard) = true := by kernel_rfl
theorem j25 : (Tryz.prog.mayEnter) = true := by kernel_rfl
theorem j26 : (( Rows.ledgerClosedRow.lifted == Tryz.prog.liftsFinal)) = true := by kernel_rfl
theorem j27 : ((Tryz.prog.make == some  Rows.ledgerClosedRow.make)) = true := by kernel_rfl
theorem j28 : (( Rows.ledgerClosedRow.kinds == (if  Rows.ledgerClosedRow.domain.isEmpty then [] else Tryz.f9.params.toList.map fun t => match Tryz.prog.underlying t with | some (.int k) => some k | _ => none))) = true := by kernel_rfl
theorem j29 : (( Rows.ledgerClosedRow.pinned ==  Rows.ledgerClosedRow.pinnedBy)) = true := by kernel_rfl
theorem j30 : (( Rows.ledgerClosedRow.veiled == (Tryz.f9.params.toList ++ Rows.ledgerClosedSpec.plain.varTypes Tryz.prog ++ Tryz.f9.resultTypes.toList).any (Tryz.prog.veiledRec ·))) = true := by kernel_rfl
theorem j31 : ( Rows.ledgerClosedRow.veiledFits Tryz.prog Tryz.f9.params.toList (Tryz.f9.params.toList ++ Rows.ledgerClosedSpec.plain.varTypes Tryz.prog ++ Tryz.f9.resultTypes.toList)) = true := by kernel_rfl
theorem closed : joinedFacts Tryz.prog 9 Tryz.f9 Rows.ledgerClosedSpec Rows.ledgerClosedRow = true := (andT (andT (andT (andT (andT (andT (andT (andT (andT (andT (andT (andT (andT (andT (andT (andT (andT (andT (andT (andT (andT (andT (andT (andT (andT (andT (andT (andT (andT (andT (andT j0 j1) j2) j3) j4) j5) j6) j7) j8) j9) j10) j11) j12) j13) j14) j15) j16) j17) j18) j19) j20) j21) j22) j23) j24) j25) j26) j27) j28) j29) j30) j31)
theorem fnNamed : Tryz.prog.funcNamed "porringer/porringerlaw12.LedgerClosed" = some 9 := by kernel_rfl
theorem wrap : Tryz.f9.isWrapper Tryz.prog Rows.ledgerClosedRow.wrapper Rows.ledgerClosedRow.mainSum := by
  unfold Func.isWrapper; first | (rw [if_pos (by decide +kernel)]; kernel_rfl) | (rw [if_neg (by decide +kernel)]; exact ⟨rfl, rfl⟩)
theorem inst : Tryz.f9.isInstance Tryz.prog Rows.ledgerClosedRow.origin Rows.ledgerClosedRow.targs := of_decide_eq_true (by kernel_rfl)
theorem own : ownKnob Tryz.prog.godebug = none := by kernel_rfl
theorem laidOut : laidOutB Tryz.prog = true := by kernel_rfl
theorem lifted (os : Os) (started : os.Started) (H : Type) (enc : TypeId × Value → H) :
    ReturnsInHanded {} Tryz.checked os 9 .any (fun w args => (Rows.ledgerClosedSpec.pre enc Tryz.prog Tryz.f9 Rows.ledgerClosedRow.domain false w args ∧ laidMetH Tryz.prog Rows.ledgerClosedRow.laid w) ∧ sizedMet enc Tryz.prog Tryz.f9 (OpenSpec.ofChange Rows.ledgerClosedSpec) false w args)
      (Rows.ledgerClosedSpec.post enc Tryz.prog Tryz.f9 false true false false) := by
  refine returnsInHanded_of_change_and (C := Tryz.checked) (X := fun w _ => laidMetH Tryz.prog Rows.ledgerClosedRow.laid w) (fun _ _ _ hh h => h.of_heap hh) own started (by kernel_rfl) Tryz.func9
    (ChangeSpec.witness_shaped (enc := enc) (C := Tryz.checked) (os := os) (X := fun w _ => laidMetH Tryz.prog Rows.ledgerClosedRow.laid w) false (World.laidAll Tryz.prog os Rows.ledgerClosedRow.laid) #[.agg #[.int .i64 0, .int .i64 0, .slice none 0 0], .agg #[.int .i64 0, .int .i64 0, .int .i64 0, .int .i64 0], .int .u8 0, .int .u8 0, .int .u8 0] 8 (World.laidAll_os _ _ _)
      (World.shaped_of_ZipB (by kernel_rfl) (by kernel_rfl)) (by kernel_rfl) (by kernel_rfl) (by kernel_rfl)
      (by rw [MakeChecks.laidMetH_plain _ _ _ (by kernel_rfl)]; exact laidMet_laidAll _ (by kernel_rfl) (by kernel_rfl))) ?_
  intro W base args ds gs before hval0 hW hcnd _ hL _
  have hval : ∀ (j : Nat) t v, Tryz.f9.params[j]? = some t → args[j]? = some v → Value.okWide Tryz.prog W .any base t v := hval0
  have hW' := hW
  obtain ⟨p, q, hA0, hV, rfl, hfz, hnd⟩ := hW
  have hA : DataW.TrodAll enc Tryz.prog W 0 (fun _ => true) true Tryz.f9.params.toList args.toList ds p := hA0
  have hA1 := hA
  have hlt : ∀ y ∈ p, y.block < W.heap.size := fun y hy => hW'.lt y (by simp [hy])
  rw [Tryz.params9] at hA hval
  obtain ⟨v0, v1, v2, v3, v4, d0, d1, d2, d3, d4, p0, p1, p2, p3, p4, rfl, rfl, rfl, h0, h1, h2, h3, h4⟩ := trodAll_five hA
  obtain ⟨rfl, rfl⟩ := trodVars_none hV
  obtain ⟨ac0, cl0, a0, m0, c0, es0, rfl, B0, N0⟩ := open_book (hval 0 24 _ rfl rfl) h0
  obtain ⟨en1, rfl, w1⟩ := open_entry (hval 1 26 _ rfl rfl) h1
  obtain ⟨n2, rfl, rfl, rfl, w2⟩ := open_int Tryz.underlying5 (hval 2 5 _ rfl rfl) h2
  obtain ⟨n3, rfl, rfl, rfl, w3⟩ := open_int Tryz.underlying5 (hval 3 5 _ rfl rfl) h3
  obtain ⟨n4, rfl, rfl, rfl, w4⟩ := open_int Tryz.underlying5 (hval 4 5 _ rfl rfl) h4
  clear hA0 hval0
  simp only [List.append_nil] at hW' hA1 hlt
  refine (Go.Eng.calls_ext (closed9 ac0 cl0 a0 m0 c0 es0 en1 n2 n3 n4 W.heap B0 N0 (Go.bounds_u8 w2) (Go.bounds_u8 w3) (Go.bounds_u8 w4))).mono fun e W' ⟨he, hx, hr⟩ => ?_
  subst he
  exact ⟨_, rfl, post_kept (pv := []) hW' (fun _ _ _ => (trodAll_cons_mk (shut_bool Tryz.underlying4 _) trodAll_mk0)) (fun sp hs => Go.Eng.trodAll_ext laidOut hx (by kernel_rfl) hA1 hlt hs) (fun _ _ => rfl) (by simp) (Go.Run.kept_of hx hr)⟩
theorem over : Rows.LedgerClosedSaid :=
  OpenClaim.holds_of_wide 9 Tryz.f9 rfl rfl rfl rfl rfl rfl rfl ⟨rfl, rfl, rfl, rfl, rfl⟩ rfl rfl rfl rfl rfl fnNamed Tryz.func9 closed inst wrap
    (fun os started H enc _ => lifted os started H enc)
theorem wf7 : Rows.ledgerClosedRow.wfByText (OpenSpec.ofChange Rows.ledgerClosedSpec) = true := by kernel_rfl
theorem main7 : Tryz.pinned.checked.prog.mainIs = some ((true, "2aa3340013a6fad92cf2575ce3a21ef53df19b5cf3bf92be2ab210bb05281df7").1, (true, "2aa3340013a6fad92cf2575ce3a21ef53df19b5cf3bf92be2ab210bb05281df7").2.toList) := by kernel_rfl
theorem looks7 : true = Tryz.prog.looks [] := by kernel_rfl
theorem goes7 : false = Rows.ledgerClosedRow.goesBy Tryz.pinned.checked.prog := by kernel_rfl
theorem stand7 : ([24, 26, 5, 5, 5].all fun u => !Tryz.prog.wantsStandIn u) = true := by kernel_rfl
/-- THE STATEMENT: THE TIED CARD. -/
theorem proved : Rows.LedgerClosedCardSaid :=
  Claim7.holds_tied_plain_at .later [] [.data, .data, .data, .data, .sentinel, .sentinel, .pinned] true (true, "2aa3340013a6fad92cf2575ce3a21ef53df19b5cf3bf92be2ab210bb05281df7") true over (fun _ h => by cases h) wf7 (fun _ h => by cases h) ledgerClosed_row_tie rfl ⟨rfl, rfl⟩ main7 rfl
    (fun f fn hf hfn => by
      obtain rfl : f = 9 := Option.some.inj (fnNamed.symm.trans hf) |>.symm
      obtain rfl : fn = Tryz.f9 := (Option.some.inj (Tryz.func9.symm.trans hfn)).symm
      exact ⟨looks7, fun j t ht => by
        rw [Tryz.params9] at ht
        have hm : t ∈ [24, 26, 5, 5, 5] := by have := Array.mem_of_getElem? ht; simpa using this
        exact (show Tryz.prog.wantsStandIn t = false by simpa using List.all_eq_true.1 stand7 t hm)⟩)
    goes7
#print axioms proved
end Go.Proofs.YtepaekbjoombpaaGreatDoor.ledgerClosed
