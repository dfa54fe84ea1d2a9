/- Rows: arguments read as before; slices of integers as arguments. No condition. -/
import Derived.Test.YtejmkibjpaoahaaGreatDoorRunU
import Derived.ProofKit
import Derived.OpenShut
import Derived.Below
import Derived.WideKeyArgs
import Derived.ChangeSlices
set_option linter.unusedVariables false
set_option linter.unusedSimpArgs false
namespace Go.Eng
open Go Go.ChangeShapes Go.WideShapes Go.ChangeAt Go.RowKit
section rowkit
variable {P:Program}{H:Type}{enc:TypeId×Value->H}
theorem Vd {W W':World}(x:Ext W.heap W'.heap){p:MemPlace}(hp:p.block<W.heap.size):W.sameAt W' p:=by
 have h:=x.old p.block hp;cases p with
 |cell b o=>exact World.cell?_of_block (w:=W) h
 |map b=>exact h
theorem Ij (hl:laidOutB P=true){W W':World}(x:Ext W.heap W'.heap){sp:Nat->Bool}:∀{ts:List TypeId} {vs:List Value} {ds:List (DataW H)} {ps:List MemPlace},
 (ts.all fun t=>P.readableRec t&&decide (t<P.types.size))=true->DataW.TrodAll enc P W 0 (fun _=>true) true ts vs ds ps->(∀p∈ps,p.block<W.heap.size)->(∀p∈ps,sp p.block=true)->DataW.TrodAll enc P W' 0 sp true ts vs ds ps
 |[],[],[],ps,_,h,_,_=>h
 |t::ts,v::vs,d::ds,ps,ht,⟨p,q,h1,h2,he⟩,hb,hs=>by
  subst he;simp only[List.all_cons,Bool.and_eq_true,decide_eq_true_eq]at ht;exact⟨p,q,WideElems.Trod_stays hl ht.1.1 ht.1.2 h1 (fun y hy=>Vd x (hb y (by simp[hy]))) (fun y hy=>hs y (by simp[hy])),
   Ij hl x (by simpa using ht.2) h2 (fun y hy=>hb y (by simp[hy])) (fun y hy=>hs y (by simp[hy])),rfl⟩
theorem open_slice {W:World}{base b0:Nat}{r:Reach}{sp:Nat->Bool}{held:Bool}{t e:TypeId}{v:Value}{d:DataW H}{ps:List MemPlace}(ht:P.underlying t=some (.slice e))(he:P.underlying e=some (.int .i64))(hc:P.cellsOf e=1)
 (hval:Value.okWide P W r b0 t v) (hd:DataW.Trod enc P W base sp held t v d ps):∃a n c xs,v= .slice a n c/\eu W.heap a n xs/\n<=c/\c<=maxLen/\∀x∈xs,(Lit.int .i64 x).wf=true:=by
 obtain⟨a0,n,c,rfl⟩:=okWide_slice ht hval;obtain⟨fuel,hf⟩:=hd;rcases open_ints ht he hc hf with⟨hcs,_⟩|⟨a,len,cap,zs,hcs,_,hl,hm,hz,_,hcell,hw⟩
 .simp[Value.cells]at hcs;obtain⟨rfl,rfl,rfl⟩:=hcs;exact⟨none,0,0,[],rfl,eu.nil _,by omega,by omega,by simp⟩
 .simp[Value.cells]at hcs;obtain⟨rfl,rfl,rfl⟩:=hcs;have hlz:n<=zs.length:=by rw[hz];split<;>omega
  refine⟨some a,n,c,zs.take n,rfl,⟨by simp;omega,?_⟩,hl,hm,fun x hx=>hw x (List.mem_of_mem_take hx)⟩;by_cases hn:n=0
  .left;subst hn;simp[Eng.ints]
  .right;have h0:=hcell 0 (by omega);have key:∀i u,W.cell? (a.add i)=some u->(i=0->a.spot=none)/\∃cur ct fr,W.heap[a.block]? =some (.cells cur ct fr)/\cur[a.off+i]? =some u:=by
    intro i u hu;unfold World.cell? Addr.add at hu;by_cases hi:i=0
    .subst hi;simp only[if_true]at hu;split at hu<;>simp_all
    .simp only[hi,if_false]at hu;split at hu<;>simp_all
   obtain⟨hsp,cur,ct,fr,hb,_⟩:=key 0 _ h0;have hcur:∀i,i<zs.length->cur[a.off+i]? =some (.int .i64 (zs.getD i 0)):=fun i hi=>by
    obtain⟨_,cur2,ct2,fr2,hb2,hc2⟩:=key i _ (hcell i hi);rw[hb]at hb2;cases hb2;exact hc2
   have hsz:a.off+n<=cur.size:=by
    have:=hcur (n-1) (by omega);have:=(Array.getElem?_eq_some_iff.1 this).1;omega
   obtain⟨b,off,spot⟩:=a
   replace hsp:=hsp rfl
   simp only at hsp hb hcur hsz;subst hsp;refine⟨b,off,cur,ct,fr,rfl,hb,by simp[Eng.aR];omega,?_⟩;apply List.ext_getElem?;intro i;rw[Eng.aR,List.length_take,List.getElem?_take,List.getElem?_drop];by_cases hi:i<n
   .rw[if_pos (by omega),Array.getElem?_toList,hcur i (by omega),Eng.Cn _ _ (by simp;omega)];simp[List.getD,List.getElem?_take,hi]
   .rw[if_neg (by omega),List.getElem?_eq_none];rw[Eng.aR,List.length_take];omega
theorem zAB {f:FuncId}{args:Array Value}{W:World}{b:Bool}(hc:ak P f args W.heap (fun v h'=>v= .bool b/\Ext W.heap h')):Calls P f args W fun e W'=>e= .returned (.bool b)/\Ext W.heap W'.heap/\Rest W W':=by
 unfold ak gP at hc;refine Calls.mono (hc.2 W rfl) ?_;rintro e W' ⟨v,rfl,⟨rfl,x⟩,r⟩;exact⟨rfl,x,r⟩
end rowkit
end Go.Eng
