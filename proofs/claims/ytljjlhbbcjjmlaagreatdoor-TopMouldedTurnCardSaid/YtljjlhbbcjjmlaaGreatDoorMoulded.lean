/- TopMouldedTurn returns true, its card tied to the program's text. Whatever the input, the listed variables laid as the text lays them: no other condition. -/
import Derived.Test.YtljjlhbbcjjmlaaGreatDoorRows
import Derived.Test.YtljjlhbbcjjmlaaGreatDoorCards
import Derived.Test.YtljjlhbbcjjmlaaGreatDoorTym
import Derived.Test.YtljjlhbbcjjmlaaGreatDoorM5z
import Derived.Test.YtljjlhbbcjjmlaaGreatDoorEngR
import Derived.Test.YtljjlhbbcjjmlaaGreatDoorClo
import Derived.Test.YtljjlhbbcjjmlaaGreatDoorClo4
import Derived.ProofKit
import Derived.OpenShut
import Derived.LaidMore
import Derived.Lay
import Derived.SevenTiedAt
import Derived.Stop.Joined
namespace Go.Proofs.YtljjlhbbcjjmlaaGreatDoor.topMouldedTurn
open Go Go.Proofs Go.ChangeShapes Go.WideShapes Go.ChangeAt Go.RowKit Go.Run
set_option maxRecDepth 100000
set_option linter.unnecessarySimpa false
theorem andT {a b:Bool}(h:a=true)(k:b=true):(a&&b)=true:=by rw[h,k];rfl
theorem j0:(Rows.topMouldedTurnRow.wf (OpenSpec.ofChange Rows.topMouldedTurnSpec))=true:=by kernel_rfl
theorem j1:(laidOutB Tryz.prog)=true:=Clo.laid
theorem j2:(mapsRowed Tryz.prog)=true:=by kernel_rfl
theorem j3:(Tryz.f4.params.all (Tryz.prog.readableRec ·))=true:=by kernel_rfl
theorem j4:(namedTie Tryz.prog Rows.topMouldedTurnRow.named Rows.topMouldedTurnSpec.vars)=true:=by kernel_rfl
theorem j5:((Rows.topMouldedTurnRow.stops==[]))=true:=by kernel_rfl
theorem j6:((Tryz.prog.stops==[]))=true:=by kernel_rfl
theorem j7:((Rows.topMouldedTurnRow.knobs==[]))=true:=by kernel_rfl
theorem j8:((Tryz.prog.stopKnobs==[]))=true:=by kernel_rfl
theorem j9:((Rows.topMouldedTurnRow.inPlace==Tryz.prog.inPlace 4))=true:=Clo.j9_4
theorem j10:((Rows.topMouldedTurnRow.unfollowed==Tryz.prog.unfollowed 4))=true:=Clo.j10_4
theorem j11:((Rows.topMouldedTurnRow.recurses==Tryz.prog.recurses 4))=true:=Clo.j11_4
theorem j12:((Rows.topMouldedTurnRow.named==Tryz.prog.varsNamed 4))=true:=Clo.j12_4
theorem j13:((Rows.topMouldedTurnRow.maps==(Tryz.f4.params.toList++Rows.topMouldedTurnSpec.plain.varTypes Tryz.prog).any (Tryz.prog.mapsRec ·)))=true:=by kernel_rfl
theorem j14:((Rows.topMouldedTurnRow.ifaces==(Tryz.f4.params.toList++Rows.topMouldedTurnSpec.plain.varTypes Tryz.prog).any (Tryz.prog.ifacesRec ·)))=true:=by kernel_rfl
theorem j15:((Rows.topMouldedTurnRow.mapsOut==Tryz.prog.mapsAmong Tryz.f4.resultTypes.toList))=true:=by kernel_rfl
theorem j16:((Rows.topMouldedTurnRow.loops==(Tryz.f4.params.toList++Rows.topMouldedTurnSpec.plain.varTypes Tryz.prog).any (Tryz.prog.loopsFrom ·)))=true:=by kernel_rfl
theorem j17:((Rows.topMouldedTurnRow.wideKeys==(Tryz.f4.params.toList++Rows.topMouldedTurnSpec.plain.varTypes Tryz.prog++Tryz.f4.resultTypes.toList).any (Tryz.prog.wideKeysFrom ·)))=true:=by kernel_rfl
theorem j18:(Rows.topMouldedTurnSpec.vars.all (Tryz.prog.varReadable ·))=true:=by kernel_rfl
theorem j19:(Tryz.f4.resultTypes.all (fun t=>Tryz.prog.readableRec t&&decide (t<Tryz.prog.types.size)))=true:=by kernel_rfl
theorem j20:((Rows.topMouldedTurnRow.ifacesOut==Tryz.f4.resultTypes.toList.any (Tryz.prog.ifacesRec ·)))=true:=by kernel_rfl
theorem j21:((Rows.topMouldedTurnRow.loopsOut==Tryz.f4.resultTypes.toList.any (Tryz.prog.loopsFrom ·)))=true:=by kernel_rfl
theorem j22:((Rows.topMouldedTurnRow.plainKeys==Tryz.prog.plainKeys))=true:=by kernel_rfl
theorem j23:(Rows.topMouldedTurnRow.shortTexts.isNone)=true:=by kernel_rfl
theorem j24:(Tryz.prog.stopsHeard)=true:=by kernel_rfl
theorem j25:(Tryz.prog.mayEnter)=true:=by kernel_rfl
theorem j26:((Rows.topMouldedTurnRow.lifted==Tryz.prog.liftsFinal))=true:=by kernel_rfl
theorem j27:((Tryz.prog.make==some Rows.topMouldedTurnRow.make))=true:=by kernel_rfl
theorem j28:((Rows.topMouldedTurnRow.kinds==(if Rows.topMouldedTurnRow.domain.isEmpty then[]else Tryz.f4.params.toList.map fun t=>match Tryz.prog.underlying t with|some (.int k)=>some k|_=>none)))=true:=by kernel_rfl
theorem j29:((Rows.topMouldedTurnRow.pinned==Rows.topMouldedTurnRow.pinnedBy))=true:=by kernel_rfl
theorem j30:((Rows.topMouldedTurnRow.veiled==(Tryz.f4.params.toList++Rows.topMouldedTurnSpec.plain.varTypes Tryz.prog++Tryz.f4.resultTypes.toList).any (Tryz.prog.veiledRec ·)))=true:=by kernel_rfl
theorem j31:(Rows.topMouldedTurnRow.veiledFits Tryz.prog Tryz.f4.params.toList (Tryz.f4.params.toList++Rows.topMouldedTurnSpec.plain.varTypes Tryz.prog++Tryz.f4.resultTypes.toList))=true:=by kernel_rfl
theorem closed:joinedFacts Tryz.prog 4 Tryz.f4 Rows.topMouldedTurnSpec Rows.topMouldedTurnRow=true:=(andT (andT (andT (andT (andT (andT (andT (andT (andT (andT (andT (andT (andT (andT (andT (andT (andT (andT (andT (andT (andT (andT (andT (andT (andT (andT (andT (andT (andT (andT (andT j0 j1) j2) j3) j4) j5) j6) j7) j8) j9) j10) j11) j12) j13) j14) j15) j16) j17) j18) j19) j20) j21) j22) j23) j24) j25) j26) j27) j28) j29) j30) j31)
theorem fnNamed:Tryz.prog.funcNamed "porringer/porringertop.TopMouldedTurn" =some 4:=by kernel_rfl
theorem wrap:Tryz.f4.isWrapper Tryz.prog Rows.topMouldedTurnRow.wrapper Rows.topMouldedTurnRow.mainSum:=by
 unfold Func.isWrapper;first|(rw[if_pos (by decide+kernel)];kernel_rfl)|(rw[if_neg (by decide+kernel)];exact⟨rfl,rfl⟩)
theorem inst:Tryz.f4.isInstance Tryz.prog Rows.topMouldedTurnRow.origin Rows.topMouldedTurnRow.targs:=of_decide_eq_true (by kernel_rfl)
theorem own:ownKnob Tryz.prog.godebug=none:=by kernel_rfl
theorem laidOut:laidOutB Tryz.prog=true:=Clo.laid
theorem lifted (os:Os)(started:os.Started)(H:Type)(enc:TypeId×Value->H):
 ReturnsInHanded {} Tryz.checked os 4 .any (fun w args=>(Rows.topMouldedTurnSpec.pre enc Tryz.prog Tryz.f4 Rows.topMouldedTurnRow.domain false w args/\laidMetH Tryz.prog Rows.topMouldedTurnRow.laid w)/\sizedMet enc Tryz.prog Tryz.f4 (OpenSpec.ofChange Rows.topMouldedTurnSpec) false w args)
  (Rows.topMouldedTurnSpec.post enc Tryz.prog Tryz.f4 false true false false):=by
 refine returnsInHanded_of_change_and (C:=Tryz.checked) (X:=fun w _=>laidMetH Tryz.prog Rows.topMouldedTurnRow.laid w) (fun _ _ _ hh h=>h.of_heap hh) own started (by kernel_rfl) Tryz.func4
  (ChangeSpec.witness_shaped (enc:=enc) (C:=Tryz.checked) (os:=os) (X:=fun w _=>laidMetH Tryz.prog Rows.topMouldedTurnRow.laid w) false (World.laidAll Tryz.prog os Rows.topMouldedTurnRow.laid) #[.int .u8 0,.int .u32 0] 8 (World.laidAll_os _ _ _)
   (World.shaped_of_ZipB (by kernel_rfl) (by kernel_rfl)) (by kernel_rfl) (by kernel_rfl) (by kernel_rfl)
   (by rw[MakeChecks.laidMetH_plain _ _ _ (by kernel_rfl)];exact laidMet_laidAll _ (by kernel_rfl) (by kernel_rfl))) ?_
 intro W base args ds gs before hval0 hW hcnd _ hL _;have hval:∀(j:Nat) t v,Tryz.f4.params[j]? =some t->args[j]? =some v->Value.okWide Tryz.prog W .any base t v:=hval0;have hW':=hW;obtain⟨p,q,hA0,hV,rfl,hfz,hnd⟩:=hW;have hA:DataW.TrodAll enc Tryz.prog W 0 (fun _=>true) true Tryz.f4.params.toList args.toList ds p:=hA0;have hA1:=hA;have hlt:∀y∈p,y.block<W.heap.size:=fun y hy=>hW'.lt y (by simp[hy])
 rw[Tryz.params4]at hA hval;obtain⟨v0,v1,d0,d1,p0,p1,rfl,rfl,rfl,h0,h1⟩:=trodAll_two hA;obtain⟨rfl,rfl⟩:=trodVars_none hV;obtain⟨n0,rfl,rfl,rfl,w0⟩:=open_int Tryz.underlying5 (hval 0 5 _ rfl rfl) h0;obtain⟨n1,rfl,rfl,rfl,w1⟩:=open_int Tryz.underlying36 (hval 1 36 _ rfl rfl) h1;clear hA0 hval0;simp only[List.append_nil]at hW' hA1 hlt;refine(Go.Eng.zAB (M5.moulded n0 n1 W.heap (Go.bounds_u8 w0) (Go.bounds_u32 w1))).mono fun e W' ⟨he,hx,hr⟩=> ?_
 subst he;exact⟨_,rfl,zAM (pv:=[]) hW' (fun _ _ _=>(trodAll_cons_mk (shut_bool Tryz.underlying4 _) trodAll_mk0)) (fun sp hs=>Go.Eng.Ij laidOut hx (by kernel_rfl) hA1 hlt hs) (fun _ _=>rfl) (by simp) (Go.Run.VF hx hr)⟩
theorem over:Rows.TopMouldedTurnSaid:=
 OpenClaim.holds_of_wide 4 Tryz.f4 rfl rfl rfl rfl rfl rfl rfl ⟨rfl,rfl,rfl,rfl,rfl⟩ rfl rfl rfl rfl rfl fnNamed Tryz.func4 closed inst wrap
  (fun os started H enc _=>lifted os started H enc)
theorem wf7:Rows.topMouldedTurnRow.wfByText (OpenSpec.ofChange Rows.topMouldedTurnSpec)=true:=by kernel_rfl
theorem main7:Tryz.pinned.checked.prog.mainIs=some ((true,"d099138ea3f4d26e9a04b05345a7d2acad8bc856a6adfea57982669ad14eddd8").1,(true,"d099138ea3f4d26e9a04b05345a7d2acad8bc856a6adfea57982669ad14eddd8").2.toList):=by kernel_rfl
theorem looks7:false=Tryz.prog.looks []:=by kernel_rfl
theorem goes7:false=Rows.topMouldedTurnRow.goesBy Tryz.pinned.checked.prog:=Clo.stay _
theorem stand7:([5,36].all fun u=> !Tryz.prog.wantsStandIn u)=true:=by kernel_rfl
theorem proved:Rows.TopMouldedTurnCardSaid:=
 Claim7.holds_tied_plain_at .later [] [.data,.pinned] true (true,"d099138ea3f4d26e9a04b05345a7d2acad8bc856a6adfea57982669ad14eddd8") false over (fun _ h=>by cases h) wf7 (fun _ h=>by cases h) topMouldedTurn_row_tie rfl ⟨rfl,rfl⟩ main7 rfl
  (fun f fn hf hfn=>by
   obtain rfl:f=4:=Option.some.inj (fnNamed.symm.trans hf)|>.symm;obtain rfl:fn=Tryz.f4:=(Option.some.inj (Tryz.func4.symm.trans hfn)).symm;exact⟨looks7,fun j t ht=>by
    rw[Tryz.params4]at ht;have hm:t∈[5,36]:=by have:=Array.mem_of_getElem? ht;simpa using this
    exact(show Tryz.prog.wantsStandIn t=false by simpa using List.all_eq_true.1 stand7 t hm)⟩)
  goes7
#print axioms proved
end Go.Proofs.YtljjlhbbcjjmlaaGreatDoor.topMouldedTurn
