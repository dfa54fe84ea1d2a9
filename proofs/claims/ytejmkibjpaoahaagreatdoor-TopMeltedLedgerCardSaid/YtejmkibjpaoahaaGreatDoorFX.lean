/- The listed variables, laid as the text lays them, hold what the walks read. -/
import Derived.Test.YtejmkibjpaoahaaGreatDoorRows
import Derived.Test.YtejmkibjpaoahaaGreatDoorS4
import Derived.Lib.LaidTab
import Derived.MakeChecks
import Derived.Stop.LaidErr
namespace Go.Proofs.YtejmkibjpaoahaaGreatDoor
open Go Go.Proofs Go.Eng Go.Run
set_option maxRecDepth 100000
theorem star460: "*" ++ "errors.errorString" = "*errors.errorString" :=by decide
theorem nzFx {f:Nat->Bool}{a k b m n:Nat}(h:(List.range' a k).all f=true)(hb:a+k=b)(hn:k+m=n)(t:(List.range' b m).all f=true):(List.range' a n).all f=true:=by
 subst hb hn;rw[<-List.range'_append_1,List.all_append,h,t];rfl
theorem sizeF:Tryz.prog.types.size=841:=by kernel_rfl
noncomputable def fA (u:Nat):Bool:=Tryz.prog.typeName? 3 u !=some "*errors.errorString" ||u==460
noncomputable def fB (e:Nat):Bool:=Tryz.prog.typeName? 2 e !=some "errors.errorString" ||(match(Tryz.prog.info? e).map (·.desc)with|some (TypeDesc.named _ _)=>true|_=>false)
theorem rA0:(List.range' 0 85).all fA=true:=by kernel_rfl
theorem rA1:(List.range' 85 85).all fA=true:=by kernel_rfl
theorem rA2:(List.range' 170 85).all fA=true:=by kernel_rfl
theorem rA3:(List.range' 255 85).all fA=true:=by kernel_rfl
theorem rA4:(List.range' 340 85).all fA=true:=by kernel_rfl
theorem rA5:(List.range' 425 85).all fA=true:=by kernel_rfl
theorem rA6:(List.range' 510 85).all fA=true:=by kernel_rfl
theorem rA7:(List.range' 595 85).all fA=true:=by kernel_rfl
theorem rA8:(List.range' 680 85).all fA=true:=by kernel_rfl
theorem rA9:(List.range' 765 76).all fA=true:=by kernel_rfl
theorem rA:(List.range Tryz.prog.types.size).all fA=true:=by
 rw[sizeF,List.range_eq_range'];exact nzFx (n:=841) rA0 (by decide) (by decide) (nzFx (n:=756) rA1 (by decide) (by decide) (nzFx (n:=671) rA2 (by decide) (by decide) (nzFx (n:=586) rA3 (by decide) (by decide) (nzFx (n:=501) rA4 (by decide) (by decide) (nzFx (n:=416) rA5 (by decide) (by decide) (nzFx (n:=331) rA6 (by decide) (by decide) (nzFx (n:=246) rA7 (by decide) (by decide) (nzFx (n:=161) rA8 (by decide) (by decide) (rA9)))))))))
theorem rB0:(List.range' 0 85).all fB=true:=by kernel_rfl
theorem rB1:(List.range' 85 85).all fB=true:=by kernel_rfl
theorem rB2:(List.range' 170 85).all fB=true:=by kernel_rfl
theorem rB3:(List.range' 255 85).all fB=true:=by kernel_rfl
theorem rB4:(List.range' 340 85).all fB=true:=by kernel_rfl
theorem rB5:(List.range' 425 85).all fB=true:=by kernel_rfl
theorem rB6:(List.range' 510 85).all fB=true:=by kernel_rfl
theorem rB7:(List.range' 595 85).all fB=true:=by kernel_rfl
theorem rB8:(List.range' 680 85).all fB=true:=by kernel_rfl
theorem rB9:(List.range' 765 76).all fB=true:=by kernel_rfl
theorem rB:(List.range Tryz.prog.types.size).all fB=true:=by
 rw[sizeF,List.range_eq_range'];exact nzFx (n:=841) rB0 (by decide) (by decide) (nzFx (n:=756) rB1 (by decide) (by decide) (nzFx (n:=671) rB2 (by decide) (by decide) (nzFx (n:=586) rB3 (by decide) (by decide) (nzFx (n:=501) rB4 (by decide) (by decide) (nzFx (n:=416) rB5 (by decide) (by decide) (nzFx (n:=331) rB6 (by decide) (by decide) (nzFx (n:=246) rB7 (by decide) (by decide) (nzFx (n:=161) rB8 (by decide) (by decide) (rB9)))))))))
theorem row460 (u:TypeId)(h:Tryz.prog.typeName? 3 u=some "*errors.errorString"):u=460:=
 typeName_ptr_named (nm:= "errors.errorString") (by rw[star460];exact rA) rB (by decide) u (by rw[star460];exact h)
theorem fx_of {W:World}{a b c e f:String×DataW Unit}(h:laidMet Tryz.prog [a,b,("internal/strconv.uint64pow10",Rows.laid_internal_strconv_uint64pow10),c,e,("strconv.ErrSyntax",Rows.laid_strconv_ErrSyntax),f] W):Fx W.heap:=by
 refine⟨?_,?_⟩
 .exact Lib.tabIs_of_head (k:= .u64) (zs:=Lib.pow10Tab) (g:=1) (t:=388) (e:=308) (n:=20) (by kernel_rfl) (by kernel_rfl) (by kernel_rfl) (by kernel_rfl) (by kernel_rfl) (by kernel_rfl) h.tail.tail
 .obtain⟨x,s,hv,-,-,-⟩:=laid_sentinel (g:=2) (ti:=131) (tp:=460) (te:=462) (ts:=9) h.tail.tail.tail.tail.tail (by kernel_rfl) (by kernel_rfl) Tryz.underlying131 row460 Tryz.underlying460 Tryz.underlying462 rfl rfl Tryz.underlying9 (by kernel_rfl) (by kernel_rfl);exact⟨460,_,hv⟩
end Go.Proofs.YtejmkibjpaoahaaGreatDoor
