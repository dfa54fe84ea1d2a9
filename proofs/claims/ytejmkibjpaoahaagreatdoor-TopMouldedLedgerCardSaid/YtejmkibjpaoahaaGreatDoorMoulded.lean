/- TopMouldedLedger returns true, its card tied to the program's text. Whatever the input, the listed variables laid as the text lays them: no other condition. -/
import Derived.Test.YtejmkibjpaoahaaGreatDoorRows
import Derived.Test.YtejmkibjpaoahaaGreatDoorCards
import Derived.Test.YtejmkibjpaoahaaGreatDoorTyo
import Derived.Test.YtejmkibjpaoahaaGreatDoorV6
import Derived.Test.YtejmkibjpaoahaaGreatDoorClo
import Derived.Test.YtejmkibjpaoahaaGreatDoorClo3
import Derived.ProofKit
import Derived.OpenShut
import Derived.LaidMore
import Derived.Lay
import Derived.SevenTiedAt
import Derived.Stop.Joined
namespace Go.Proofs.YtejmkibjpaoahaaGreatDoor.topMouldedLedger
open Go Go.Proofs Go.ChangeShapes Go.WideShapes Go.ChangeAt Go.RowKit Go.Run
set_option maxRecDepth 100000
set_option linter.unusedVariables false
set_option linter.unnecessarySimpa false
theorem VF {W W':World}(x:Eng.Ext W.heap W'.heap)(r:Eng.Rest W W')(may:MemPlace->Prop):W.keptBut W' may:=by
 refine⟨r.os,r.output,fun i hi=> ?_⟩;rw[x.old i hi];cases W.heap[i]? with
 |none=>rfl
 |some o=>cases o<;>first|exact⟨rfl,rfl,rfl,fun _ _=>rfl⟩|exact .inr ⟨rfl,rfl⟩|rfl
theorem zAM {P:Program}{H:Type}{enc:TypeId×Value->H}{f:Func}{s:ChangeSpec}{apart fresh handsOn:Bool}{W W':World}{args:Array Value}{v:Value}{ds gs:List (DataW H)}{before pa pv:List MemPlace}
 (hW:DataW.Whole enc P f.params.toList s.vars apart W args.toList ds gs before)
 (hres:∀(b:Nat) (sp:Nat->Bool) (hd:Bool),DataW.TrodAll enc P W' b sp hd f.resultTypes.toList (v.resultList f.resultTypes.size) (s.fn H (ds++gs)).results [])
 (hargs:∀sp:Nat->Bool,(∀p∈before,sp p.block=true)->DataW.TrodAll enc P W' 0 sp true f.params.toList args.toList (s.fn H (ds++gs)).args pa)
 (hvars:∀sp:Nat->Bool,(∀p∈before,sp p.block=true)->DataW.TrodVars enc P W' sp s.vars (s.fn H (ds++gs)).vars pv)
 (hps:before=pa++pv) (hk:∀may,W.keptBut W' may):s.post enc P f apart fresh handsOn false W args v W':=by
 have hold:∀p∈before,(fun b=>decide (b<W.heap.size)) p.block=true:=fun p hp=>by simpa using hW.lt p hp
 exact⟨ds,gs,before,[],pa,pv,hW,hres _ _ _,hargs _ hold,hvars _ hold,hk _,fun h=>(by cases h)⟩
theorem andT {a b:Bool}(h:a=true)(k:b=true):(a&&b)=true:=by rw[h,k];rfl
theorem j0:(Rows.topMouldedLedgerRow.wf (OpenSpec.ofChange Rows.topMouldedLedgerSpec))=true:=by kernel_rfl
theorem j1:(laidOutB Tryz.prog)=true:=Clo.laid
theorem j2:(mapsRowed Tryz.prog)=true:=by kernel_rfl
theorem j3:(Tryz.f3.params.all (Tryz.prog.readableRec ·))=true:=by kernel_rfl
theorem j4:(namedTie Tryz.prog Rows.topMouldedLedgerRow.named Rows.topMouldedLedgerSpec.vars)=true:=by kernel_rfl
theorem j5:((Rows.topMouldedLedgerRow.stops==[]))=true:=by kernel_rfl
theorem j6:((Tryz.prog.stops==[]))=true:=by kernel_rfl
theorem j7:((Rows.topMouldedLedgerRow.knobs==[]))=true:=by kernel_rfl
theorem j8:((Tryz.prog.stopKnobs==[]))=true:=by kernel_rfl
theorem j9:((Rows.topMouldedLedgerRow.inPlace==Tryz.prog.inPlace 3))=true:=Clo.j9_3
theorem j10:((Rows.topMouldedLedgerRow.unfollowed==Tryz.prog.unfollowed 3))=true:=Clo.j10_3
theorem j11:((Rows.topMouldedLedgerRow.recurses==Tryz.prog.recurses 3))=true:=Clo.j11_3
theorem j12:((Rows.topMouldedLedgerRow.named==Tryz.prog.varsNamed 3))=true:=Clo.j12_3
theorem j13:((Rows.topMouldedLedgerRow.maps==(Tryz.f3.params.toList++Rows.topMouldedLedgerSpec.plain.varTypes Tryz.prog).any (Tryz.prog.mapsRec ·)))=true:=by kernel_rfl
theorem j14:((Rows.topMouldedLedgerRow.ifaces==(Tryz.f3.params.toList++Rows.topMouldedLedgerSpec.plain.varTypes Tryz.prog).any (Tryz.prog.ifacesRec ·)))=true:=by kernel_rfl
theorem j15:((Rows.topMouldedLedgerRow.mapsOut==Tryz.prog.mapsAmong Tryz.f3.resultTypes.toList))=true:=by kernel_rfl
theorem j16:((Rows.topMouldedLedgerRow.loops==(Tryz.f3.params.toList++Rows.topMouldedLedgerSpec.plain.varTypes Tryz.prog).any (Tryz.prog.loopsFrom ·)))=true:=by kernel_rfl
theorem j17:((Rows.topMouldedLedgerRow.wideKeys==(Tryz.f3.params.toList++Rows.topMouldedLedgerSpec.plain.varTypes Tryz.prog++Tryz.f3.resultTypes.toList).any (Tryz.prog.wideKeysFrom ·)))=true:=by kernel_rfl
theorem j18:(Rows.topMouldedLedgerSpec.vars.all (Tryz.prog.varReadable ·))=true:=by kernel_rfl
theorem j19:(Tryz.f3.resultTypes.all (fun t=>Tryz.prog.readableRec t&&decide (t<Tryz.prog.types.size)))=true:=by kernel_rfl
theorem j20:((Rows.topMouldedLedgerRow.ifacesOut==Tryz.f3.resultTypes.toList.any (Tryz.prog.ifacesRec ·)))=true:=by kernel_rfl
theorem j21:((Rows.topMouldedLedgerRow.loopsOut==Tryz.f3.resultTypes.toList.any (Tryz.prog.loopsFrom ·)))=true:=by kernel_rfl
theorem j22:((Rows.topMouldedLedgerRow.plainKeys==Tryz.prog.plainKeys))=true:=by kernel_rfl
theorem j23:(Rows.topMouldedLedgerRow.shortTexts.isNone)=true:=by kernel_rfl
theorem j24:(Tryz.prog.stopsHeard)=true:=by kernel_rfl
theorem j25:(Tryz.prog.mayEnter)=true:=by kernel_rfl
theorem j26:((Rows.topMouldedLedgerRow.lifted==Tryz.prog.liftsFinal))=true:=by kernel_rfl
theorem j27:((Tryz.prog.make==some Rows.topMouldedLedgerRow.make))=true:=by kernel_rfl
theorem j28:((Rows.topMouldedLedgerRow.kinds==(if Rows.topMouldedLedgerRow.domain.isEmpty then[]else Tryz.f3.params.toList.map fun t=>match Tryz.prog.underlying t with|some (.int k)=>some k|_=>none)))=true:=by kernel_rfl
theorem j29:((Rows.topMouldedLedgerRow.pinned==Rows.topMouldedLedgerRow.pinnedBy))=true:=by kernel_rfl
theorem j30:((Rows.topMouldedLedgerRow.veiled==(Tryz.f3.params.toList++Rows.topMouldedLedgerSpec.plain.varTypes Tryz.prog++Tryz.f3.resultTypes.toList).any (Tryz.prog.veiledRec ·)))=true:=by kernel_rfl
theorem j31:(Rows.topMouldedLedgerRow.veiledFits Tryz.prog Tryz.f3.params.toList (Tryz.f3.params.toList++Rows.topMouldedLedgerSpec.plain.varTypes Tryz.prog++Tryz.f3.resultTypes.toList))=true:=by kernel_rfl
theorem closed:joinedFacts Tryz.prog 3 Tryz.f3 Rows.topMouldedLedgerSpec Rows.topMouldedLedgerRow=true:=(andT (andT (andT (andT (andT (andT (andT (andT (andT (andT (andT (andT (andT (andT (andT (andT (andT (andT (andT (andT (andT (andT (andT (andT (andT (andT (andT (andT (andT (andT (andT j0 j1) j2) j3) j4) j5) j6) j7) j8) j9) j10) j11) j12) j13) j14) j15) j16) j17) j18) j19) j20) j21) j22) j23) j24) j25) j26) j27) j28) j29) j30) j31)
theorem fnNamed:Tryz.prog.funcNamed "porringer/porringertop.TopMouldedLedger" =some 3:=by kernel_rfl
theorem wrap:Tryz.f3.isWrapper Tryz.prog Rows.topMouldedLedgerRow.wrapper Rows.topMouldedLedgerRow.mainSum:=by
 unfold Func.isWrapper;first|(rw[if_pos (by decide+kernel)];kernel_rfl)|(rw[if_neg (by decide+kernel)];exact⟨rfl,rfl⟩)
theorem inst:Tryz.f3.isInstance Tryz.prog Rows.topMouldedLedgerRow.origin Rows.topMouldedLedgerRow.targs:=of_decide_eq_true (by kernel_rfl)
theorem own:ownKnob Tryz.prog.godebug=none:=by kernel_rfl
theorem laidOut:laidOutB Tryz.prog=true:=Clo.laid
theorem lifted (os:Os)(started:os.Started)(H:Type)(enc:TypeId×Value->H):
 ReturnsInHanded {} Tryz.checked os 3 .any (fun w args=>(Rows.topMouldedLedgerSpec.pre enc Tryz.prog Tryz.f3 Rows.topMouldedLedgerRow.domain false w args/\laidMetH Tryz.prog Rows.topMouldedLedgerRow.laid w)/\sizedMet enc Tryz.prog Tryz.f3 (OpenSpec.ofChange Rows.topMouldedLedgerSpec) false w args)
  (Rows.topMouldedLedgerSpec.post enc Tryz.prog Tryz.f3 false true false false):=by
 refine returnsInHanded_of_change_and (C:=Tryz.checked) (X:=fun w _=>laidMetH Tryz.prog Rows.topMouldedLedgerRow.laid w) (fun _ _ _ hh h=>h.of_heap hh) own started (by kernel_rfl) Tryz.func3
  (ChangeSpec.witness_shaped (enc:=enc) (C:=Tryz.checked) (os:=os) (X:=fun w _=>laidMetH Tryz.prog Rows.topMouldedLedgerRow.laid w) false (World.laidAll Tryz.prog os Rows.topMouldedLedgerRow.laid) #[.agg #[.int .i64 0,.int .i64 0,.slice none 0 0],.slice none 0 0,.int .u8 0,.int .u8 0] 8 (World.laidAll_os _ _ _)
   (World.shaped_of_ZipB (by kernel_rfl) (by kernel_rfl)) (by kernel_rfl) (by kernel_rfl) (by kernel_rfl)
   (by rw[MakeChecks.laidMetH_plain _ _ _ (by kernel_rfl)];exact laidMet_laidAll _ (by kernel_rfl) (by kernel_rfl))) ?_
 intro W base args ds gs before hval0 hW hcnd _ hL _;have hval:∀(j:Nat) t v,Tryz.f3.params[j]? =some t->args[j]? =some v->Value.okWide Tryz.prog W .any base t v:=hval0;have hW':=hW;obtain⟨p,q,hA0,hV,rfl,hfz,hnd⟩:=hW;have hA:DataW.TrodAll enc Tryz.prog W 0 (fun _=>true) true Tryz.f3.params.toList args.toList ds p:=hA0;have hA1:=hA;have hlt:∀y∈p,y.block<W.heap.size:=fun y hy=>hW'.lt y (by simp[hy])
 rw[Tryz.params3]at hA hval;obtain⟨v0,v1,v2,v3,d0,d1,d2,d3,p0,p1,p2,p3,rfl,rfl,rfl,h0,h1,h2,h3⟩:=trodAll_four hA;obtain⟨rfl,rfl⟩:=trodVars_none hV;obtain⟨ac0,cl0,a0,m0,c0,es0,rfl,B0,N0⟩:=Mo.zP6 (hval 0 24 _ rfl rfl) h0;obtain⟨a1,m1,c1,xs1,rfl,N1,B1,M1,X1⟩:=Go.Eng.Z0 Tryz.underlying25 Tryz.underlying5 (by kernel_rfl) (hval 1 25 _ rfl rfl) h1;obtain⟨n2,rfl,rfl,rfl,w2⟩:=open_int Tryz.underlying5 (hval 2 5 _ rfl rfl) h2;obtain⟨n3,rfl,rfl,rfl,w3⟩:=open_int Tryz.underlying5 (hval 3 5 _ rfl rfl) h3;clear hA0 hval0;simp only[List.append_nil]at hW' hA1 hlt;refine(Go.Eng.zAB (zQp ac0 cl0 a0 m0 c0 es0 a1 m1 c1 xs1 n2 n3 W.heap B0 N0 N1 B1 M1 X1 (Go.bounds_u8 w2) (Go.bounds_u8 w3))).mono fun e W' ⟨he,hx,hr⟩=> ?_
 subst he;exact⟨_,rfl,zAM (pv:=[]) hW' (fun _ _ _=>(trodAll_cons_mk (shut_bool Tryz.underlying4 _) trodAll_mk0)) (fun sp hs=>Go.Eng.Ij laidOut hx (by kernel_rfl) hA1 hlt hs) (fun _ _=>rfl) (by simp) (VF hx hr)⟩
theorem over:Rows.TopMouldedLedgerSaid:=
 OpenClaim.holds_of_wide 3 Tryz.f3 rfl rfl rfl rfl rfl rfl rfl ⟨rfl,rfl,rfl,rfl,rfl⟩ rfl rfl rfl rfl rfl fnNamed Tryz.func3 closed inst wrap
  (fun os started H enc _=>lifted os started H enc)
theorem wf7:Rows.topMouldedLedgerRow.wfByText (OpenSpec.ofChange Rows.topMouldedLedgerSpec)=true:=by kernel_rfl
theorem main7:Tryz.pinned.checked.prog.mainIs=some ((true,"d42ee5b65e1b53760b3b6fffc57b52c8dd88e810e4f2e613d548304e31caf40c").1,(true,"d42ee5b65e1b53760b3b6fffc57b52c8dd88e810e4f2e613d548304e31caf40c").2.toList):=by kernel_rfl
theorem looks7:true=Tryz.prog.looks []:=by kernel_rfl
theorem goes7:false=Rows.topMouldedLedgerRow.goesBy Tryz.pinned.checked.prog:=Clo.stay _
theorem stand7:([24,25,5,5].all fun u=> !Tryz.prog.wantsStandIn u)=true:=by kernel_rfl
theorem proved:Rows.TopMouldedLedgerCardSaid:=
 Claim7.holds_tied_plain_at .later [] [.data,.data,.data,.data,.sentinel,.sentinel,.pinned] true (true,"d42ee5b65e1b53760b3b6fffc57b52c8dd88e810e4f2e613d548304e31caf40c") true over (fun _ h=>by cases h) wf7 (fun _ h=>by cases h) topMouldedLedger_row_tie rfl ⟨rfl,rfl⟩ main7 rfl
  (fun f fn hf hfn=>by
   obtain rfl:f=3:=Option.some.inj (fnNamed.symm.trans hf)|>.symm;obtain rfl:fn=Tryz.f3:=(Option.some.inj (Tryz.func3.symm.trans hfn)).symm;exact⟨looks7,fun j t ht=>by
    rw[Tryz.params3]at ht;have hm:t∈[24,25,5,5]:=by have:=Array.mem_of_getElem? ht;simpa using this
    exact(show Tryz.prog.wantsStandIn t=false by simpa using List.all_eq_true.1 stand7 t hm)⟩)
  goes7
#print axioms proved
end Go.Proofs.YtejmkibjpaoahaaGreatDoor.topMouldedLedger
