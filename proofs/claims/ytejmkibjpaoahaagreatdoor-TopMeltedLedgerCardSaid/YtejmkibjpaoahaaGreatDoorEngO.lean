/- The engine: strings, bytes, rows as arguments. No condition. -/
import Derived.Test.YtejmkibjpaoahaaGreatDoorEngR
import Derived.Test.YtejmkibjpaoahaaGreatDoorQ1
open List renaming length_take→eD,getElem?_eq_none→kL,getElem?_take→lY,getElem?_drop→rX,ext_getElem?→JF
open Array renaming getElem?_eq_some_iff→eP,getElem?_toList→sM
set_option linter.unusedVariables false
set_option linter.unusedSimpArgs false
namespace Go.Eng
open Go Go.ChangeShapes Go.WideShapes Go.ChangeAt Go.RowKit
theorem zAp {P:Program}{H:Type}{enc:TypeId×Value->H}{W:World}{base b0:Nat}{r:Reach}{sp:Nat->Bool}{held:Bool}{t:TypeId}{v:Value}{d:DataW H}{ps:List MemPlace}(ht:P.underlying t=some .string)
 (hval:Value.okWide P W r b0 t v) (hd:DataW.Trod enc P W base sp held t v d ps):∃s,v= .string s/\s.size<=9223372036854775807:=by
 obtain⟨s,rfl⟩:=okWide_string ht hval;obtain⟨fuel,hf⟩:=hd;obtain⟨s2,h1,_,h2⟩:=DataW.trod_string ht hf;simp[Value.cells]at h1;subst h1;exact⟨s,rfl,h2⟩
def pX (xs:List Int):List Value:=xs.map fun x=> .int .u8 x
theorem mY (xs:List Int):(pX xs).length=xs.length:=List.length_map _
theorem Yq (xs:List Int){i:Nat}(h:i<(pX xs).length):(pX xs)[i]= .int .u8 (xs[i]'(by simpa[pX]using h)):=by simp[pX]
theorem Z0 {P:Program}{H:Type}{enc:TypeId×Value->H}{W:World}{base b0:Nat}{r:Reach}{sp:Nat->Bool}{held:Bool}{t e:TypeId}{v:Value}{d:DataW H}{ps:List MemPlace}(ht:P.underlying t=some (.slice e))(he:P.underlying e=some (.int .u8))(hc:P.cellsOf e=1)
 (hval:Value.okWide P W r b0 t v) (hd:DataW.Trod enc P W base sp held t v d ps):∃a n c xs,v= .slice a n c/\(n=xs.length/\n<=c)/\Row W.heap a (pX xs)/\n<=9223372036854775807/\∀x∈xs,0<=x/\x<=255:=by
 obtain⟨a0,n,c,rfl⟩:=okWide_slice ht hval;obtain⟨fuel,hf⟩:=hd;rcases open_ints ht he hc hf with⟨hcs,_⟩|⟨a,len,cap,zs,hcs,_,hl,hm,hz,_,hcell,hw⟩
 .simp[Value.cells]at hcs;obtain⟨rfl,rfl,rfl⟩:=hcs;exact⟨none,0,0,[],rfl,⟨rfl,Nat.le_refl _⟩,.inl rfl,by omega,by simp⟩
 .simp[Value.cells]at hcs;obtain⟨rfl,rfl,rfl⟩:=hcs;have hlz:n<=zs.length:=by rw[hz];split<;>omega
  refine⟨some a,n,c,zs.take n,rfl,⟨by simp;omega,hl⟩,?_,Nat.le_trans hl hm,fun x hx=>bounds_u8 (hw x (List.mem_of_mem_take hx))⟩;by_cases hn:n=0
  .left;subst hn;simp[pX]
  .right;have h0:=hcell 0 (by omega);have key:∀i u,W.cell? (a.add i)=some u->(i=0->a.spot=none)/\∃cur ct fr,W.heap[a.block]? =some (.cells cur ct fr)/\cur[a.off+i]? =some u:=by
    intro i u hu;unfold World.cell? Addr.add at hu;by_cases hi:i=0
    .subst hi;simp only[if_true]at hu;split at hu<;>simp_all
    .simp only[hi,if_false]at hu;split at hu<;>simp_all
   obtain⟨hsp,cur,ct,fr,hb,_⟩:=key 0 _ h0;have hcur:∀i,i<zs.length->cur[a.off+i]? =some (.int .u8 (zs.getD i 0)):=fun i hi=>by
    obtain⟨_,cur2,ct2,fr2,hb2,hc2⟩:=key i _ (hcell i hi);rw[hb]at hb2;cases hb2;exact hc2
   have hsz:a.off+n<=cur.size:=by
    have:=hcur (n-1) (by omega);have:=(eP.1 this).1;omega
   obtain⟨b,off,spot⟩:=a
   replace hsp:=hsp rfl
   simp only at hsp hb hcur hsz;subst hsp;refine⟨b,off,cur,ct,fr,rfl,hb,by simp[mY];omega,?_⟩;apply JF;intro i;rw[mY,eD,lY,rX];by_cases hi:i<n
   .rw[if_pos (by omega),sM,hcur i (by omega),pX,List.getElem?_map,lY,if_pos hi];have hi2:i<zs.length:=by omega
    simp[List.getD,hi2]
   .rw[if_neg (by omega),kL];rw[mY,eD];omega
theorem row_of {W:World}{a:Addr}{vs:List Value}(hc:∀i (hi:i<vs.length),W.cell? (a.add i)=some vs[i]):Row W.heap (some a) vs:=by
 by_cases hn:vs.length=0
 .left;exact List.eq_nil_of_length_eq_zero hn
 right;have key:∀i u,W.cell? (a.add i)=some u->(i=0->a.spot=none)/\∃cur ct fr,W.heap[a.block]? =some (.cells cur ct fr)/\cur[a.off+i]? =some u:=by
  intro i u hu;unfold World.cell? Addr.add at hu;by_cases hi:i=0
  .subst hi;simp only[if_true]at hu;split at hu<;>simp_all
  .simp only[hi,if_false]at hu;split at hu<;>simp_all
 obtain⟨hsp,cur,ct,fr,hb,_⟩:=key 0 _ (hc 0 (by omega));have hcur:∀i (hi:i<vs.length),cur[a.off+i]? =some vs[i]:=fun i hi=>by
  obtain⟨_,cur2,ct2,fr2,hb2,hc2⟩:=key i _ (hc i hi);rw[hb]at hb2;cases hb2;exact hc2
 have hsz:a.off+vs.length<=cur.size:=by
  have:=hcur (vs.length-1) (by omega);have:=(eP.1 this).1;omega
 obtain⟨b,off,spot⟩:=a
 replace hsp:=hsp rfl
 simp only at hsp hb hcur hsz;subst hsp;refine⟨b,off,cur,ct,fr,rfl,hb,hsz,?_⟩;apply JF;intro i;rw[lY,rX];by_cases hi:i<vs.length
 .rw[if_pos hi,sM,hcur i hi,List.getElem?_eq_getElem hi]
 .rw[if_neg hi,kL (by omega)]
theorem Jq {α:Type}{p:Nat->α->Prop}:∀n,(∀i<n,∃x,p i x)->∃l:List α,l.length=n/\∀i (hi:i<l.length),p i l[i]
 |0,_=>⟨[],rfl,fun i hi=>by simp at hi⟩
 |n+1,H=>by
  obtain⟨l,hl,h⟩:=Jq n fun i hi=>H i (by omega)
  obtain⟨x,hx⟩:=H n (by omega);refine⟨l++[x],by simp[hl],fun i hi=> ?_⟩;by_cases hin:i<l.length
  .rw[List.getElem_append_left hin];exact h i hin
  .have:i=l.length:=by simp at hi;omega
   subst this;rw[List.getElem_append_right (Nat.le_refl _)];simpa[hl]using hx
end Go.Eng
