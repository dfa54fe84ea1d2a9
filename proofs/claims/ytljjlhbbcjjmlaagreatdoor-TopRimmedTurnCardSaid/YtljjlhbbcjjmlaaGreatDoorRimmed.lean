/- TopRimmedTurn returns true, its card tied to the program's text. Whatever the input, the listed variables laid as the text lays them: no other condition. -/
import Derived.Test.YtljjlhbbcjjmlaaGreatDoorRows
import Derived.Test.YtljjlhbbcjjmlaaGreatDoorCards
import Derived.Test.YtljjlhbbcjjmlaaGreatDoorTyr
import Derived.Test.YtljjlhbbcjjmlaaGreatDoorRW5
import Derived.Test.YtljjlhbbcjjmlaaGreatDoorEngR
import Derived.Test.YtljjlhbbcjjmlaaGreatDoorEngO
import Derived.Test.YtljjlhbbcjjmlaaGreatDoorClo
import Derived.Test.YtljjlhbbcjjmlaaGreatDoorClo3
import Derived.ProofKit
import Derived.OpenShut
import Derived.LaidMore
import Derived.Lay
import Derived.SevenTiedAt
import Derived.Stop.Joined
namespace Go.Proofs.YtljjlhbbcjjmlaaGreatDoor.topRimmedTurn
open Go Go.Proofs Go.ChangeShapes Go.WideShapes Go.ChangeAt Go.RowKit Go.Run
set_option maxRecDepth 100000
set_option linter.unnecessarySimpa false
theorem andT {a b:Bool}(h:a=true)(k:b=true):(a&&b)=true:=by rw[h,k];rfl
theorem j0:(Rows.topRimmedTurnRow.wf (OpenSpec.ofChange Rows.topRimmedTurnSpec))=true:=by kernel_rfl
theorem j1:(laidOutB Tryz.prog)=true:=Clo.laid
theorem j2:(mapsRowed Tryz.prog)=true:=by kernel_rfl
theorem j3:(Tryz.f3.params.all (Tryz.prog.readableRec ·))=true:=by kernel_rfl
theorem j4:(namedTie Tryz.prog Rows.topRimmedTurnRow.named Rows.topRimmedTurnSpec.vars)=true:=by kernel_rfl
theorem j5:((Rows.topRimmedTurnRow.stops==[]))=true:=by kernel_rfl
theorem j6:((Tryz.prog.stops==[]))=true:=by kernel_rfl
theorem j7:((Rows.topRimmedTurnRow.knobs==[]))=true:=by kernel_rfl
theorem j8:((Tryz.prog.stopKnobs==[]))=true:=by kernel_rfl
theorem j9:((Rows.topRimmedTurnRow.inPlace==Tryz.prog.inPlace 3))=true:=Clo.j9_3
theorem j10:((Rows.topRimmedTurnRow.unfollowed==Tryz.prog.unfollowed 3))=true:=Clo.j10_3
theorem j11:((Rows.topRimmedTurnRow.recurses==Tryz.prog.recurses 3))=true:=Clo.j11_3
theorem j12:((Rows.topRimmedTurnRow.named==Tryz.prog.varsNamed 3))=true:=Clo.j12_3
theorem j13:((Rows.topRimmedTurnRow.maps==(Tryz.f3.params.toList++Rows.topRimmedTurnSpec.plain.varTypes Tryz.prog).any (Tryz.prog.mapsRec ·)))=true:=by kernel_rfl
theorem j14:((Rows.topRimmedTurnRow.ifaces==(Tryz.f3.params.toList++Rows.topRimmedTurnSpec.plain.varTypes Tryz.prog).any (Tryz.prog.ifacesRec ·)))=true:=by kernel_rfl
theorem j15:((Rows.topRimmedTurnRow.mapsOut==Tryz.prog.mapsAmong Tryz.f3.resultTypes.toList))=true:=by kernel_rfl
theorem j16:((Rows.topRimmedTurnRow.loops==(Tryz.f3.params.toList++Rows.topRimmedTurnSpec.plain.varTypes Tryz.prog).any (Tryz.prog.loopsFrom ·)))=true:=by kernel_rfl
theorem j17:((Rows.topRimmedTurnRow.wideKeys==(Tryz.f3.params.toList++Rows.topRimmedTurnSpec.plain.varTypes Tryz.prog++Tryz.f3.resultTypes.toList).any (Tryz.prog.wideKeysFrom ·)))=true:=by kernel_rfl
theorem j18:(Rows.topRimmedTurnSpec.vars.all (Tryz.prog.varReadable ·))=true:=by kernel_rfl
theorem j19:(Tryz.f3.resultTypes.all (fun t=>Tryz.prog.readableRec t&&decide (t<Tryz.prog.types.size)))=true:=by kernel_rfl
theorem j20:((Rows.topRimmedTurnRow.ifacesOut==Tryz.f3.resultTypes.toList.any (Tryz.prog.ifacesRec ·)))=true:=by kernel_rfl
theorem j21:((Rows.topRimmedTurnRow.loopsOut==Tryz.f3.resultTypes.toList.any (Tryz.prog.loopsFrom ·)))=true:=by kernel_rfl
theorem j22:((Rows.topRimmedTurnRow.plainKeys==Tryz.prog.plainKeys))=true:=by kernel_rfl
theorem j23:(Rows.topRimmedTurnRow.shortTexts.isNone)=true:=by kernel_rfl
theorem j24:(Tryz.prog.stopsHeard)=true:=by kernel_rfl
theorem j25:(Tryz.prog.mayEnter)=true:=by kernel_rfl
theorem j26:((Rows.topRimmedTurnRow.lifted==Tryz.prog.liftsFinal))=true:=by kernel_rfl
theorem j27:((Tryz.prog.make==some Rows.topRimmedTurnRow.make))=true:=by kernel_rfl
theorem j28:((Rows.topRimmedTurnRow.kinds==(if Rows.topRimmedTurnRow.domain.isEmpty then[]else Tryz.f3.params.toList.map fun t=>match Tryz.prog.underlying t with|some (.int k)=>some k|_=>none)))=true:=by kernel_rfl
theorem j29:((Rows.topRimmedTurnRow.pinned==Rows.topRimmedTurnRow.pinnedBy))=true:=by kernel_rfl
theorem j30:((Rows.topRimmedTurnRow.veiled==(Tryz.f3.params.toList++Rows.topRimmedTurnSpec.plain.varTypes Tryz.prog++Tryz.f3.resultTypes.toList).any (Tryz.prog.veiledRec ·)))=true:=by kernel_rfl
theorem j31:(Rows.topRimmedTurnRow.veiledFits Tryz.prog Tryz.f3.params.toList (Tryz.f3.params.toList++Rows.topRimmedTurnSpec.plain.varTypes Tryz.prog++Tryz.f3.resultTypes.toList))=true:=by kernel_rfl
theorem closed:joinedFacts Tryz.prog 3 Tryz.f3 Rows.topRimmedTurnSpec Rows.topRimmedTurnRow=true:=(andT (andT (andT (andT (andT (andT (andT (andT (andT (andT (andT (andT (andT (andT (andT (andT (andT (andT (andT (andT (andT (andT (andT (andT (andT (andT (andT (andT (andT (andT (andT j0 j1) j2) j3) j4) j5) j6) j7) j8) j9) j10) j11) j12) j13) j14) j15) j16) j17) j18) j19) j20) j21) j22) j23) j24) j25) j26) j27) j28) j29) j30) j31)
theorem fnNamed:Tryz.prog.funcNamed "porringer/porringertop.TopRimmedTurn" =some 3:=by kernel_rfl
theorem wrap:Tryz.f3.isWrapper Tryz.prog Rows.topRimmedTurnRow.wrapper Rows.topRimmedTurnRow.mainSum:=by
 unfold Func.isWrapper;first|(rw[if_pos (by decide+kernel)];kernel_rfl)|(rw[if_neg (by decide+kernel)];exact⟨rfl,rfl⟩)
theorem inst:Tryz.f3.isInstance Tryz.prog Rows.topRimmedTurnRow.origin Rows.topRimmedTurnRow.targs:=of_decide_eq_true (by kernel_rfl)
theorem own:ownKnob Tryz.prog.godebug=none:=by kernel_rfl
theorem laidOut:laidOutB Tryz.prog=true:=Clo.laid
theorem lifted (os:Os)(started:os.Started)(H:Type)(enc:TypeId×Value->H):
 ReturnsInHanded {} Tryz.checked os 3 .any (fun w args=>(Rows.topRimmedTurnSpec.pre enc Tryz.prog Tryz.f3 Rows.topRimmedTurnRow.domain false w args/\laidMetH Tryz.prog Rows.topRimmedTurnRow.laid w)/\sizedMet enc Tryz.prog Tryz.f3 (OpenSpec.ofChange Rows.topRimmedTurnSpec) false w args)
  (Rows.topRimmedTurnSpec.post enc Tryz.prog Tryz.f3 false true false false):=by
 refine returnsInHanded_of_change_and (C:=Tryz.checked) (X:=fun w _=>laidMetH Tryz.prog Rows.topRimmedTurnRow.laid w) (fun _ _ _ hh h=>h.of_heap hh) own started (by kernel_rfl) Tryz.func3
  (ChangeSpec.witness_shaped (enc:=enc) (C:=Tryz.checked) (os:=os) (X:=fun w _=>laidMetH Tryz.prog Rows.topRimmedTurnRow.laid w) false (World.laidAll Tryz.prog os Rows.topRimmedTurnRow.laid) #[.int .u8 0,.slice none 0 0,.int .u8 0] 8 (World.laidAll_os _ _ _)
   (World.shaped_of_ZipB (by kernel_rfl) (by kernel_rfl)) (by kernel_rfl) (by kernel_rfl) (by kernel_rfl)
   (by rw[MakeChecks.laidMetH_plain _ _ _ (by kernel_rfl)];exact laidMet_laidAll _ (by kernel_rfl) (by kernel_rfl))) ?_
 intro W base args ds gs before hval0 hW hcnd _ hL _;have hval:∀(j:Nat) t v,Tryz.f3.params[j]? =some t->args[j]? =some v->Value.okWide Tryz.prog W .any base t v:=hval0;have hW':=hW;obtain⟨p,q,hA0,hV,rfl,hfz,hnd⟩:=hW;have hA:DataW.TrodAll enc Tryz.prog W 0 (fun _=>true) true Tryz.f3.params.toList args.toList ds p:=hA0;have hA1:=hA;have hlt:∀y∈p,y.block<W.heap.size:=fun y hy=>hW'.lt y (by simp[hy])
 rw[Tryz.params3]at hA hval;obtain⟨v0,v1,v2,d0,d1,d2,p0,p1,p2,rfl,rfl,rfl,h0,h1,h2⟩:=trodAll_three hA;obtain⟨rfl,rfl⟩:=trodVars_none hV;obtain⟨n0,rfl,rfl,rfl,w0⟩:=open_int Tryz.underlying5 (hval 0 5 _ rfl rfl) h0;obtain⟨a1,m1,c1,xs1,rfl,N1,B1,M1,X1⟩:=Go.Eng.Z0 Tryz.underlying22 Tryz.underlying5 (by kernel_rfl) (hval 1 22 _ rfl rfl) h1;obtain⟨n2,rfl,rfl,rfl,w2⟩:=open_int Tryz.underlying5 (hval 2 5 _ rfl rfl) h2;clear hA0 hval0;simp only[List.append_nil]at hW' hA1 hlt;refine(Go.Eng.zAB (rimmed n0 a1 m1 c1 xs1 n2 W.heap (Go.bounds_u8 w0) N1 B1 M1 X1 (Go.bounds_u8 w2))).mono fun e W' ⟨he,hx,hr⟩=> ?_
 subst he;exact⟨_,rfl,zAM (pv:=[]) hW' (fun _ _ _=>(trodAll_cons_mk (shut_bool Tryz.underlying4 _) trodAll_mk0)) (fun sp hs=>Go.Eng.Ij laidOut hx (by kernel_rfl) hA1 hlt hs) (fun _ _=>rfl) (by simp) (Go.Run.VF hx hr)⟩
theorem over:Rows.TopRimmedTurnSaid:=
 OpenClaim.holds_of_wide 3 Tryz.f3 rfl rfl rfl rfl rfl rfl rfl ⟨rfl,rfl,rfl,rfl,rfl⟩ rfl rfl rfl rfl rfl fnNamed Tryz.func3 closed inst wrap
  (fun os started H enc _=>lifted os started H enc)
theorem wf7:Rows.topRimmedTurnRow.wfByText (OpenSpec.ofChange Rows.topRimmedTurnSpec)=true:=by kernel_rfl
theorem main7:Tryz.pinned.checked.prog.mainIs=some ((true,"d099138ea3f4d26e9a04b05345a7d2acad8bc856a6adfea57982669ad14eddd8").1,(true,"d099138ea3f4d26e9a04b05345a7d2acad8bc856a6adfea57982669ad14eddd8").2.toList):=by kernel_rfl
theorem looks7:false=Tryz.prog.looks []:=by kernel_rfl
theorem goes7:false=Rows.topRimmedTurnRow.goesBy Tryz.pinned.checked.prog:=Clo.stay _
theorem stand7:([5,22,5].all fun u=> !Tryz.prog.wantsStandIn u)=true:=by kernel_rfl
theorem proved:Rows.TopRimmedTurnCardSaid:=
 Claim7.holds_tied_plain_at .later [] [.data,.pinned] true (true,"d099138ea3f4d26e9a04b05345a7d2acad8bc856a6adfea57982669ad14eddd8") false over (fun _ h=>by cases h) wf7 (fun _ h=>by cases h) topRimmedTurn_row_tie rfl ⟨rfl,rfl⟩ main7 rfl
  (fun f fn hf hfn=>by
   obtain rfl:f=3:=Option.some.inj (fnNamed.symm.trans hf)|>.symm;obtain rfl:fn=Tryz.f3:=(Option.some.inj (Tryz.func3.symm.trans hfn)).symm;exact⟨looks7,fun j t ht=>by
    rw[Tryz.params3]at ht;have hm:t∈[5,22,5]:=by have:=Array.mem_of_getElem? ht;simpa using this
    exact(show Tryz.prog.wantsStandIn t=false by simpa using List.all_eq_true.1 stand7 t hm)⟩)
  goes7
#print axioms proved
end Go.Proofs.YtljjlhbbcjjmlaaGreatDoor.topRimmedTurn
