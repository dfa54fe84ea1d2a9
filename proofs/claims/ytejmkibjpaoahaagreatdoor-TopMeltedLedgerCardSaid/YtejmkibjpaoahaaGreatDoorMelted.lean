/- TopMeltedLedger returns true, its card tied to the program's text. Whatever the input, the listed variables laid as the text lays them: no other condition. -/
import Derived.Test.YtejmkibjpaoahaaGreatDoorRows
import Derived.Test.YtejmkibjpaoahaaGreatDoorCards
import Derived.Test.YtejmkibjpaoahaaGreatDoorTym
import Derived.Test.YtejmkibjpaoahaaGreatDoorDW9
import Derived.Test.YtejmkibjpaoahaaGreatDoorFX
import Derived.Test.YtejmkibjpaoahaaGreatDoorDO
import Derived.Test.YtejmkibjpaoahaaGreatDoorEngR
import Derived.Test.YtejmkibjpaoahaaGreatDoorClo
import Derived.Test.YtejmkibjpaoahaaGreatDoorClo4
import Derived.ProofKit
import Derived.OpenShut
import Derived.LaidMore
import Derived.Lay
import Derived.SevenTiedAt
import Derived.Stop.Joined
namespace Go.Proofs.YtejmkibjpaoahaaGreatDoor.topMeltedLedger
open Go Go.Proofs Go.ChangeShapes Go.WideShapes Go.ChangeAt Go.RowKit Go.Run
set_option maxRecDepth 100000
set_option linter.unusedVariables false
set_option linter.unnecessarySimpa false
theorem VF {W W':World}(x:Eng.Ext W.heap W'.heap)(r:Eng.Rest W W')(may:MemPlace->Prop):W.keptBut W' may:=by
 refine⟨r.os,r.output,fun i hi=> ?_⟩;rw[x.old i hi];cases W.heap[i]? with
 |none=>rfl
 |some o=>cases o<;>first|exact⟨rfl,rfl,rfl,fun _ _=>rfl⟩|exact .inr ⟨rfl,rfl⟩|rfl
theorem zAM {P:Program}{H:Type}{enc:TypeId×Value->H}{f:Func}{s:ChangeSpec}{apart fresh handsOn:Bool}{W W':World}{args:Array Value}{v:Value}{ds gs:List (DataW H)}{before pa pv:List MemPlace}
 (hW:DataW.Whole enc P f.params.toList s.vars apart W args.toList ds gs before)
 (hres:∀(b:Nat) (sp:Nat->Bool) (hd:Bool),DataW.TrodAll enc P W' b sp hd f.resultTypes.toList (v.resultList f.resultTypes.size) (s.fn H (ds++gs)).results [])
 (hargs:∀sp:Nat->Bool,(∀p∈before,sp p.block=true)->DataW.TrodAll enc P W' 0 sp true f.params.toList args.toList (s.fn H (ds++gs)).args pa)
 (hvars:∀sp:Nat->Bool,(∀p∈before,sp p.block=true)->DataW.TrodVars enc P W' sp s.vars (s.fn H (ds++gs)).vars pv)
 (hps:before=pa++pv) (hk:∀may,W.keptBut W' may):s.post enc P f apart fresh handsOn false W args v W':=by
 have hold:∀p∈before,(fun b=>decide (b<W.heap.size)) p.block=true:=fun p hp=>by simpa using hW.lt p hp
 exact⟨ds,gs,before,[],pa,pv,hW,hres _ _ _,hargs _ hold,hvars _ hold,hk _,fun h=>(by cases h)⟩
theorem andT {a b:Bool}(h:a=true)(k:b=true):(a&&b)=true:=by rw[h,k];rfl
theorem j0:(Rows.topMeltedLedgerRow.wf (OpenSpec.ofChange Rows.topMeltedLedgerSpec))=true:=by kernel_rfl
theorem j1:(laidOutB Tryz.prog)=true:=Clo.laid
theorem j2:(mapsRowed Tryz.prog)=true:=by kernel_rfl
theorem j3:(Tryz.f4.params.all (Tryz.prog.readableRec ·))=true:=by kernel_rfl
theorem j4:(namedTie Tryz.prog Rows.topMeltedLedgerRow.named Rows.topMeltedLedgerSpec.vars)=true:=by kernel_rfl
theorem j5:((Rows.topMeltedLedgerRow.stops==[]))=true:=by kernel_rfl
theorem j6:((Tryz.prog.stops==[]))=true:=by kernel_rfl
theorem j7:((Rows.topMeltedLedgerRow.knobs==[]))=true:=by kernel_rfl
theorem j8:((Tryz.prog.stopKnobs==[]))=true:=by kernel_rfl
theorem j9:((Rows.topMeltedLedgerRow.inPlace==Tryz.prog.inPlace 4))=true:=Clo.j9_4
theorem j10:((Rows.topMeltedLedgerRow.unfollowed==Tryz.prog.unfollowed 4))=true:=Clo.j10_4
theorem j11:((Rows.topMeltedLedgerRow.recurses==Tryz.prog.recurses 4))=true:=Clo.j11_4
theorem j12:((Rows.topMeltedLedgerRow.named==Tryz.prog.varsNamed 4))=true:=Clo.j12_4
theorem j13:((Rows.topMeltedLedgerRow.maps==(Tryz.f4.params.toList++Rows.topMeltedLedgerSpec.plain.varTypes Tryz.prog).any (Tryz.prog.mapsRec ·)))=true:=by kernel_rfl
theorem j14:((Rows.topMeltedLedgerRow.ifaces==(Tryz.f4.params.toList++Rows.topMeltedLedgerSpec.plain.varTypes Tryz.prog).any (Tryz.prog.ifacesRec ·)))=true:=by kernel_rfl
theorem j15:((Rows.topMeltedLedgerRow.mapsOut==Tryz.prog.mapsAmong Tryz.f4.resultTypes.toList))=true:=by kernel_rfl
theorem j16:((Rows.topMeltedLedgerRow.loops==(Tryz.f4.params.toList++Rows.topMeltedLedgerSpec.plain.varTypes Tryz.prog).any (Tryz.prog.loopsFrom ·)))=true:=by kernel_rfl
theorem j17:((Rows.topMeltedLedgerRow.wideKeys==(Tryz.f4.params.toList++Rows.topMeltedLedgerSpec.plain.varTypes Tryz.prog++Tryz.f4.resultTypes.toList).any (Tryz.prog.wideKeysFrom ·)))=true:=by kernel_rfl
theorem j18:(Rows.topMeltedLedgerSpec.vars.all (Tryz.prog.varReadable ·))=true:=by kernel_rfl
theorem j19:(Tryz.f4.resultTypes.all (fun t=>Tryz.prog.readableRec t&&decide (t<Tryz.prog.types.size)))=true:=by kernel_rfl
theorem j20:((Rows.topMeltedLedgerRow.ifacesOut==Tryz.f4.resultTypes.toList.any (Tryz.prog.ifacesRec ·)))=true:=by kernel_rfl
theorem j21:((Rows.topMeltedLedgerRow.loopsOut==Tryz.f4.resultTypes.toList.any (Tryz.prog.loopsFrom ·)))=true:=by kernel_rfl
theorem j22:((Rows.topMeltedLedgerRow.plainKeys==Tryz.prog.plainKeys))=true:=by kernel_rfl
theorem j23:(Rows.topMeltedLedgerRow.shortTexts.isNone)=true:=by kernel_rfl
theorem j24:(Tryz.prog.stopsHeard)=true:=by kernel_rfl
theorem j25:(Tryz.prog.mayEnter)=true:=by kernel_rfl
theorem j26:((Rows.topMeltedLedgerRow.lifted==Tryz.prog.liftsFinal))=true:=by kernel_rfl
theorem j27:((Tryz.prog.make==some Rows.topMeltedLedgerRow.make))=true:=by kernel_rfl
theorem j28:((Rows.topMeltedLedgerRow.kinds==(if Rows.topMeltedLedgerRow.domain.isEmpty then[]else Tryz.f4.params.toList.map fun t=>match Tryz.prog.underlying t with|some (.int k)=>some k|_=>none)))=true:=by kernel_rfl
theorem j29:((Rows.topMeltedLedgerRow.pinned==Rows.topMeltedLedgerRow.pinnedBy))=true:=by kernel_rfl
theorem j30:((Rows.topMeltedLedgerRow.veiled==(Tryz.f4.params.toList++Rows.topMeltedLedgerSpec.plain.varTypes Tryz.prog++Tryz.f4.resultTypes.toList).any (Tryz.prog.veiledRec ·)))=true:=by kernel_rfl
theorem j31:(Rows.topMeltedLedgerRow.veiledFits Tryz.prog Tryz.f4.params.toList (Tryz.f4.params.toList++Rows.topMeltedLedgerSpec.plain.varTypes Tryz.prog++Tryz.f4.resultTypes.toList))=true:=by kernel_rfl
theorem closed:joinedFacts Tryz.prog 4 Tryz.f4 Rows.topMeltedLedgerSpec Rows.topMeltedLedgerRow=true:=(andT (andT (andT (andT (andT (andT (andT (andT (andT (andT (andT (andT (andT (andT (andT (andT (andT (andT (andT (andT (andT (andT (andT (andT (andT (andT (andT (andT (andT (andT (andT j0 j1) j2) j3) j4) j5) j6) j7) j8) j9) j10) j11) j12) j13) j14) j15) j16) j17) j18) j19) j20) j21) j22) j23) j24) j25) j26) j27) j28) j29) j30) j31)
theorem fnNamed:Tryz.prog.funcNamed "porringer/porringertop.TopMeltedLedger" =some 4:=by kernel_rfl
theorem wrap:Tryz.f4.isWrapper Tryz.prog Rows.topMeltedLedgerRow.wrapper Rows.topMeltedLedgerRow.mainSum:=by
 unfold Func.isWrapper;first|(rw[if_pos (by decide+kernel)];kernel_rfl)|(rw[if_neg (by decide+kernel)];exact⟨rfl,rfl⟩)
theorem inst:Tryz.f4.isInstance Tryz.prog Rows.topMeltedLedgerRow.origin Rows.topMeltedLedgerRow.targs:=of_decide_eq_true (by kernel_rfl)
theorem own:ownKnob Tryz.prog.godebug=none:=by kernel_rfl
theorem laidOut:laidOutB Tryz.prog=true:=Clo.laid
theorem lifted (os:Os)(started:os.Started)(H:Type)(enc:TypeId×Value->H):
 ReturnsInHanded {} Tryz.checked os 4 .any (fun w args=>(Rows.topMeltedLedgerSpec.pre enc Tryz.prog Tryz.f4 Rows.topMeltedLedgerRow.domain false w args/\laidMetH Tryz.prog Rows.topMeltedLedgerRow.laid w)/\sizedMet enc Tryz.prog Tryz.f4 (OpenSpec.ofChange Rows.topMeltedLedgerSpec) false w args)
  (Rows.topMeltedLedgerSpec.post enc Tryz.prog Tryz.f4 false true false false):=by
 refine returnsInHanded_of_change_and (C:=Tryz.checked) (X:=fun w _=>laidMetH Tryz.prog Rows.topMeltedLedgerRow.laid w) (fun _ _ _ hh h=>h.of_heap hh) own started (by kernel_rfl) Tryz.func4
  (ChangeSpec.witness_shaped (enc:=enc) (C:=Tryz.checked) (os:=os) (X:=fun w _=>laidMetH Tryz.prog Rows.topMeltedLedgerRow.laid w) false (World.laidAll Tryz.prog os Rows.topMeltedLedgerRow.laid) #[.slice none 0 0,.slice none 0 0,.int .u8 0] 8 (World.laidAll_os _ _ _)
   (World.shaped_of_ZipB (by kernel_rfl) (by kernel_rfl)) (by kernel_rfl) (by kernel_rfl) (by kernel_rfl)
   (by rw[MakeChecks.laidMetH_plain _ _ _ (by kernel_rfl)];exact laidMet_laidAll _ (by kernel_rfl) (by kernel_rfl))) ?_
 intro W base args ds gs before hval0 hW hcnd _ hL _;have hval:∀(j:Nat) t v,Tryz.f4.params[j]? =some t->args[j]? =some v->Value.okWide Tryz.prog W .any base t v:=hval0;have hW':=hW;obtain⟨p,q,hA0,hV,rfl,hfz,hnd⟩:=hW;have hA:DataW.TrodAll enc Tryz.prog W 0 (fun _=>true) true Tryz.f4.params.toList args.toList ds p:=hA0;have hA1:=hA;have hlt:∀y∈p,y.block<W.heap.size:=fun y hy=>hW'.lt y (by simp[hy])
 rw[Tryz.params4]at hA hval;obtain⟨v0,v1,v2,d0,d1,d2,p0,p1,p2,rfl,rfl,rfl,h0,h1,h2⟩:=trodAll_three hA;obtain⟨rfl,rfl⟩:=trodVars_none hV;obtain⟨a0,m0,c0,es0,rfl,B0,N0⟩:=zYA (hval 0 57 _ rfl rfl) h0;obtain⟨a1,m1,c1,es1,rfl,B1,N1⟩:=zWr (hval 1 58 _ rfl rfl) h1;obtain⟨n2,rfl,rfl,rfl,w2⟩:=open_int Tryz.underlying5 (hval 2 5 _ rfl rfl) h2;clear hA0 hval0;simp only[List.append_nil]at hW' hA1 hlt;refine(Go.Eng.zAB (zZf a0 m0 c0 es0 a1 m1 c1 es1 n2 W.heap (fx_of ((MakeChecks.laidMetH_plain _ _ _ (by kernel_rfl)).mp hL)) B0 N0 B1 N1 (Go.bounds_u8 w2))).mono fun e W' ⟨he,hx,hr⟩=> ?_
 subst he;exact⟨_,rfl,zAM (pv:=[]) hW' (fun _ _ _=>(trodAll_cons_mk (shut_bool Tryz.underlying4 _) trodAll_mk0)) (fun sp hs=>Go.Eng.Ij laidOut hx (by kernel_rfl) hA1 hlt hs) (fun _ _=>rfl) (by simp) (VF hx hr)⟩
theorem over:Rows.TopMeltedLedgerSaid:=
 OpenClaim.holds_of_wide 4 Tryz.f4 rfl rfl rfl rfl rfl rfl rfl ⟨rfl,rfl,rfl,rfl,rfl⟩ rfl rfl rfl rfl rfl fnNamed Tryz.func4 closed inst wrap
  (fun os started H enc _=>lifted os started H enc)
theorem wf7:Rows.topMeltedLedgerRow.wfByText (OpenSpec.ofChange Rows.topMeltedLedgerSpec)=true:=by kernel_rfl
theorem main7:Tryz.pinned.checked.prog.mainIs=some ((true,"d42ee5b65e1b53760b3b6fffc57b52c8dd88e810e4f2e613d548304e31caf40c").1,(true,"d42ee5b65e1b53760b3b6fffc57b52c8dd88e810e4f2e613d548304e31caf40c").2.toList):=by kernel_rfl
theorem looks7:true=Tryz.prog.looks []:=by kernel_rfl
theorem goes7:false=Rows.topMeltedLedgerRow.goesBy Tryz.pinned.checked.prog:=Clo.stay _
theorem stand7:([57,58,5].all fun u=> !Tryz.prog.wantsStandIn u)=true:=by kernel_rfl
theorem proved:Rows.TopMeltedLedgerCardSaid:=
 Claim7.holds_tied_plain_at .later [] [.data,.data,.data,.data,.sentinel,.sentinel,.pinned] true (true,"d42ee5b65e1b53760b3b6fffc57b52c8dd88e810e4f2e613d548304e31caf40c") true over (fun _ h=>by cases h) wf7 (fun _ h=>by cases h) topMeltedLedger_row_tie rfl ⟨rfl,rfl⟩ main7 rfl
  (fun f fn hf hfn=>by
   obtain rfl:f=4:=Option.some.inj (fnNamed.symm.trans hf)|>.symm;obtain rfl:fn=Tryz.f4:=(Option.some.inj (Tryz.func4.symm.trans hfn)).symm;exact⟨looks7,fun j t ht=>by
    rw[Tryz.params4]at ht;have hm:t∈[57,58,5]:=by have:=Array.mem_of_getElem? ht;simpa using this
    exact(show Tryz.prog.wantsStandIn t=false by simpa using List.all_eq_true.1 stand7 t hm)⟩)
  goes7
#print axioms proved
end Go.Proofs.YtejmkibjpaoahaaGreatDoor.topMeltedLedger
