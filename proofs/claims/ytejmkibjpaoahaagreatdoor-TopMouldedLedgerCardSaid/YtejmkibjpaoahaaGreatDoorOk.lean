/- Lemmas. No condition. -/
import Derived.Test.YtejmkibjpaoahaaGreatDoorPr
import Derived.Test.YtejmkibjpaoahaaGreatDoorV1
import Derived.Laws.Externs
import Derived.KernelRfl
open Go.Proofs.Tryz renaming prog→bI
namespace Go.Proofs.YtejmkibjpaoahaaGreatDoor.Pt
open Go Go.Proofs Go.Run
set_option maxRecDepth 100000
set_option linter.defProp false
abbrev Y (a:Nat):Prop:=tyC bI a ((ty.drop a).take 64)=((ty.drop a).take 64).map tyR
abbrev F (a:Nat):Prop:=fnC bI a ((Tryz.prog.funcs.toList.drop a).take 64)=true
theorem y0:Y 0:=by unfold Y;kernel_rfl
theorem y64:Y 64:=by unfold Y;kernel_rfl
theorem y128:Y 128:=by unfold Y;kernel_rfl
theorem y192:Y 192:=by unfold Y;kernel_rfl
theorem y256:Y 256:=by unfold Y;kernel_rfl
theorem y320:Y 320:=by unfold Y;kernel_rfl
theorem y384:Y 384:=by unfold Y;kernel_rfl
theorem y448:Y 448:=by unfold Y;kernel_rfl
theorem y512:Y 512:=by unfold Y;kernel_rfl
theorem y576:Y 576:=by unfold Y;kernel_rfl
theorem y640:Y 640:=by unfold Y;kernel_rfl
theorem y704:Y 704:=by unfold Y;kernel_rfl
theorem y768:Y 768:=by unfold Y;kernel_rfl
theorem y832:Y 832:=by unfold Y;kernel_rfl
theorem f0:F 0:=by unfold F;kernel_rfl
theorem f64:F 64:=by unfold F;kernel_rfl
theorem f128:F 128:=by unfold F;kernel_rfl
theorem f192:F 192:=by unfold F;kernel_rfl
theorem f256:F 256:=by unfold F;kernel_rfl
theorem f320:F 320:=by unfold F;kernel_rfl
theorem f384:F 384:=by unfold F;kernel_rfl
theorem f448:F 448:=by unfold F;kernel_rfl
theorem f512:F 512:=by unfold F;kernel_rfl
theorem f576:F 576:=by unfold F;kernel_rfl
theorem f640:F 640:=by unfold F;kernel_rfl
theorem f704:F 704:=by unfold F;kernel_rfl
theorem f768:F 768:=by unfold F;kernel_rfl
theorem f832:F 832:=by unfold F;kernel_rfl
theorem yl:ty.length<=896:=by decide+kernel
theorem fl:Tryz.prog.funcs.toList.length<=896:=by decide+kernel
theorem yA:nI (TyQ bI) 0 (ty.drop 0):= .cut 0 64 (Z7 y0) (.cut 64 64 (Z7 y64) (.cut 128 64 (Z7 y128) (.cut 192 64 (Z7 y192) (.cut 256 64 (Z7 y256) (.cut 320 64 (Z7 y320) (.cut 384 64 (Z7 y384) (.cut 448 64 (Z7 y448) (.cut 512 64 (Z7 y512) (.cut 576 64 (Z7 y576) (.cut 640 64 (Z7 y640) (.cut 704 64 (Z7 y704) (.cut 768 64 (Z7 y768) (.cut 832 64 (Z7 y832) (.end yl))))))))))))))
theorem fA:nI (fun i f=>fnG bI i f=true) 0 (Tryz.prog.funcs.toList.drop 0):= .cut 0 64 (YE f0) (.cut 64 64 (YE f64) (.cut 128 64 (YE f128) (.cut 192 64 (YE f192) (.cut 256 64 (YE f256) (.cut 320 64 (YE f320) (.cut 384 64 (YE f384) (.cut 448 64 (YE f448) (.cut 512 64 (YE f512) (.cut 576 64 (YE f576) (.cut 640 64 (YE f640) (.cut 704 64 (YE f704) (.cut 768 64 (YE f768) (.cut 832 64 (YE f832) (.end fl))))))))))))))
theorem x121:TJ bI 121 (.cpy 129):=copyQ
theorem x256:TJ bI 256 (.cnt):=fun a w=>run_callFunc_extern (fn:=Tryz.f256) (by kernel_rfl) (by kernel_rfl) (by kernel_rfl) (by kernel_rfl) (e:=Extern.BytealgCount.count) (by kernel_rfl) a w
theorem x322:TJ bI 322 (.mnz 5):=⟨#[3],25,by kernel_rfl,fun a w=>run_callFunc_extern (fn:=Tryz.f322) (by kernel_rfl) (by kernel_rfl) (by kernel_rfl) (by kernel_rfl) (e:=Extern.BytealgMakeNoZero.makeNoZero #[3] #[25]) (by kernel_rfl) a w⟩
theorem x385:TJ bI 385 (.idx):=fun a w=>run_callFunc_extern (fn:=Tryz.f385) (by kernel_rfl) (by kernel_rfl) (by kernel_rfl) (by kernel_rfl) (e:=Extern.BytealgIndexByte.indexByte) (by kernel_rfl) a w
theorem xs:∀g,TJ bI g (ext g):=by
 intro g;unfold ext;split
 .exact x121
 .exact x256
 .exact x322
 .exact x385
 .trivial
theorem ok:Ok bI pr:=zBv rfl yA fA (by kernel_rfl) xs
theorem lb:fE bI pr:=zBo
end Go.Proofs.YtejmkibjpaoahaaGreatDoor.Pt
