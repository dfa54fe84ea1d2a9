/- Lemmas. No condition. -/
import Derived.Test.YtejmkibjpaoahaaGreatDoorRunM
open Bool renaming and_eq_true→aF
set_option linter.unusedVariables false
set_option linter.unusedSimpArgs false
set_option linter.defProp false
namespace Go.Run
open Go Go.Eng
noncomputable def VT (m:Fm)(e:E):List (Nat×T)->Bool
 |[]=>true
 |x::l=>match Nat.ble (Nat.succ x.1) m.n&&eqV (bu m e x.1) x.2 with|true=>VT m e l|false=>false
noncomputable def VD (s:S):List (Nat×VO)->Bool
 |[]=>true
 |x::l=>match Nat.ble x.1 16383&&(match s.at x.1 with|some o=>KX o x.2|none=>false)with|true=>VD s l|false=>false
theorem FQ {m:Fm}{e:E}:∀{l:List (Nat×T)} {acc:E},VT m e l=true->lM m (l.map (·.1)) e acc=EM m l acc
 |[],acc,_=>rfl
 |x::l,acc,h=>by
  unfold VT at h;split at h
  .rename_i a;simp only[aF]at a;show lM m (x.1::l.map (·.1)) e acc=EM m (x::l) acc;unfold lM EM;rw[aJ,if_pos a.1,force_eq,En.aV,En.aV,rJ a.2];exact FQ h
  .cases h
theorem F4 {s:S}:∀{l:List (Nat×VO)} {V:En (Option VO)},VD s l=true->nD (l.map (·.1)) s V=fromV l V
 |[],V,_=>rfl
 |x::l,V,h=>by
  unfold VD at h;split at h
  .rename_i d;simp only[aF]at d;have c:s.at x.1=some x.2:=by
    have a:=d.2;split at a
    .rename_i o e;rw[e,ou a]
    .cases a
   show nD (x.1::l.map (·.1)) s V=fromV (x::l) V;unfold nD fromV;rw[aJ,if_pos d.1,En.aV,En.aV,c];exact F4 h
  .cases h
noncomputable def Vh (p:Pr)(n:Nat)(m:Fm)(cs:List Code)(x2:Ex)(LE:List (Nat×T))(d2:List Nat)(LV:List (Nat×VO))(nx low:Nat)(e:E)(d:List Nat)(s:S):Bool:=
 match Fb (DK p n) m none cs e d s with
 | .ok ⟨x,e,d,s⟩=>eqX x x2&&(iD d d2&&(Nat.beq s.nx nx&&(Nat.beq s.low low&&(VT m e LE&&VD s LV))))
 |_=>false
theorem zCH {p:Pr}{n:Nat}{m:Fm}{cs:List Code}{LE:List (Nat×T)}{d2:List Nat}{LV:List (Nat×VO)}{nx low:Nat}{e:E}{d:List Nat}{s:S}(h:Vh p n m cs .normal LE d2 LV nx low e d s=true):
 seg p n m cs (LE.map (·.1)) (LV.map (·.1)) e d s=some (EM m LE (.leaf .any),d2,⟨fromV LV (.leaf none),nx,low⟩):=by
 unfold Vh at h;unfold seg;split at h
 .rename_i x v u w r;simp only[aF]at h;obtain⟨a,c,g,j,k,q⟩:=h;rw[r];cases wT a;simp only;rw[gu c,Nat.eq_of_beq_eq_true g,Nat.eq_of_beq_eq_true j,FQ k,F4 q]
 .cases h
end Go.Run
