/- Melts and ranges as arguments. No condition. -/
import Derived.Test.YtejmkibjpaoahaaGreatDoorEngO
import Derived.Test.YtejmkibjpaoahaaGreatDoorS1
open Go.Proofs.Tryz renaming prog→aF,underlying58→vE,underlying2→xe,underlying57→zak
open List renaming getElem?_eq_getElem→aY
open Go.DataW renaming trod→IX,trod_struct→zah,trod_slice→zat,trod_int→zaM
namespace Go.Proofs.YtejmkibjpaoahaaGreatDoor
open Go Go.Proofs Go.Eng Go.ChangeShapes Go.WideShapes Go.ChangeAt Go.RowKit
set_option maxRecDepth 100000
set_option linter.unusedSimpArgs false
set_option linter.unusedVariables false
section opens
variable {H:Type}{enc:TypeId×Value->H}{W:World}{base b0:Nat}{r:Reach}{sp:Nat->Bool}{held:Bool}{v:Value}{d:DataW H}{ps:List MemPlace}
theorem zZb:Tryz.prog.cellsOf 2=1:=by kernel_rfl
theorem zTX:Tryz.prog.cellsOf 115=2:=by kernel_rfl
theorem zUs:Tryz.prog.cellsOf 193=4:=by kernel_rfl
def prV (p:Int×Int):List Value:=[.int .i64 p.1,.int .i64 p.2]
theorem zSb {fuel:Nat}{cs:List Value}{x:DataW H×List MemPlace}(h:IX enc aF W base sp held fuel 115 cs=some x):∃p:Int×Int,cs=prV p:=by
 obtain⟨xs,n,rfl,rfl,hl,hxl,hf⟩:=zah Tryz.underlying115 h;rw[zTX]at hl;obtain⟨c0,c1,rfl⟩:∃c0 c1,cs=[c0,c1]:=by
  match cs,hl with
  |[c0,c1],_=>exact⟨_,_,rfl⟩
 obtain⟨y0,y1,rfl⟩:∃y0 y1,xs=[y0,y1]:=by
  match xs,hxl with
  |[y0,y1],_=>exact⟨_,_,rfl⟩
 have f0:IX enc aF W base sp held n 2 (([c0,c1].drop 0).take (Tryz.prog.cellsOf 2))=some y0:=hf 0 _ rfl;have f1:IX enc aF W base sp held n 2 (([c0,c1].drop 1).take (Tryz.prog.cellsOf 2))=some y1:=hf 1 _ rfl;rw[zZb]at f0 f1;obtain⟨n0,e0,_,w0⟩:=zaM xe f0;obtain⟨n1,e1,_,w1⟩:=zaM xe f1;simp at e0 e1;subst e0 e1;exact⟨(n0,n1),rfl⟩
theorem zUe {fuel:Nat}{cs:List Value}{x:DataW H×List MemPlace}(h:IX enc aF W base sp held fuel 193 cs=some x):∃e:En,cs=enV e:=by
 obtain⟨xs,n,rfl,rfl,hl,hxl,hf⟩:=zah Tryz.underlying193 h;rw[zUs]at hl;obtain⟨c0,c1,c2,c3,rfl⟩:∃c0 c1 c2 c3,cs=[c0,c1,c2,c3]:=by
  match cs,hl with
  |[c0,c1,c2,c3],_=>exact⟨_,_,_,_,rfl⟩
 obtain⟨y0,y1,rfl⟩:∃y0 y1,xs=[y0,y1]:=by
  match xs,hxl with
  |[y0,y1],_=>exact⟨_,_,rfl⟩
 have f0:IX enc aF W base sp held n 115 (([c0,c1,c2,c3].drop 0).take (Tryz.prog.cellsOf 115))=some y0:=hf 0 _ rfl;have f1:IX enc aF W base sp held n 115 (([c0,c1,c2,c3].drop 2).take (Tryz.prog.cellsOf 115))=some y1:=hf 1 _ rfl;rw[zTX]at f0 f1;obtain⟨p,e0⟩:=zSb f0;obtain⟨q,e1⟩:=zSb f1;simp[prV]at e0 e1;obtain⟨rfl,rfl⟩:=e0;obtain⟨rfl,rfl⟩:=e1;exact⟨⟨p.1,p.2,q.1,q.2⟩,rfl⟩
theorem zYA (hval:Value.okWide aF W r b0 57 v)(hd:DataW.Trod enc aF W base sp held 57 v d ps):∃a n c es,v= .slice a n c/\Row W.heap a (zOS es)/\n=es.length:=by
 obtain⟨a0,n0,c0,rfl⟩:=okWide_slice zak hval;obtain⟨fuel,h⟩:=hd;rcases zat zak h with⟨hcs,_⟩|⟨a,len,cap,elems,rest,m,_,hcs,_,hb,hl,hm,hlen,hel,_,_⟩
 .simp[Value.cells]at hcs;obtain⟨rfl,rfl,rfl⟩:=hcs;exact⟨none,0,0,[],rfl,.inl rfl,rfl⟩
 simp[Value.cells]at hcs;obtain⟨rfl,rfl,rfl⟩:=hcs;rw[zUs]at hel;have each:∀i,i<n0->∃e:En,∀k (hk:k<4),W.cell? (a.add (i*4+k))=(enV e)[k]? :=by
  intro i hi;have h1:=hel i hi;rw[aY (by omega),Option.bind_eq_some_iff]at h1;obtain⟨cs,h2,h3⟩:=h1;obtain⟨e,rfl⟩:=zUe h3;refine⟨e,fun k hk=> ?_⟩;have h4:=(World.cells?_some h2).2.2 k hk;rw[<-h4];congr 1;unfold Addr.add;split<;>split<;>split<;>simp_all<;>omega
 obtain⟨es,hes,hE⟩:=Jq n0 each;refine⟨some a,n0,c0,es,rfl,row_of fun i hi=> ?_,hes.symm⟩;rw[zOI]at hi;have h1:=hE (i/4) (by omega) (i % 4) (by omega);rw[show i/4*4+i % 4=i by omega]at h1;rw[h1,<-zTo es (i/4) (i % 4) (by omega) (by omega),show i/4*4+i % 4=i by omega,aY (by rw[zOI];omega)]
theorem zVc:∀(qs:List (Int×Int)) (i k:Nat) (hi:i<qs.length),k<2->(ints (qs.flatMap fun p=>[p.1,p.2]))[i*2+k]? =(prV qs[i])[k]?
 |q::qs,0,k,_,hk=>by
  rcases k with _|_|k
  .rfl
  .rfl
  .omega
 |q::qs,i+1,k,hi,hk=>by
  have ih:=zVc qs i k (by simp at hi;omega) hk;rw[show(i+1)*2+k=(i*2+k)+1+1 by omega];exact ih
theorem zUO:∀qs:List (Int×Int),(qs.flatMap fun p=>[p.1,p.2]).length=2*qs.length
 |[]=>rfl
 |q::qs=>by rw[List.flatMap_cons,List.length_append,zUO qs];simp;omega
theorem zWr (hval:Value.okWide aF W r b0 58 v)(hd:DataW.Trod enc aF W base sp held 58 v d ps):∃a n c o,v= .slice a n c/\Row W.heap a (ints o)/\o.length=2*n:=by
 obtain⟨a0,n0,c0,rfl⟩:=okWide_slice vE hval;obtain⟨fuel,h⟩:=hd;rcases zat vE h with⟨hcs,_⟩|⟨a,len,cap,elems,rest,m,_,hcs,_,hb,hl,hm,hlen,hel,_,_⟩
 .simp[Value.cells]at hcs;obtain⟨rfl,rfl,rfl⟩:=hcs;exact⟨none,0,0,[],rfl,.inl rfl,rfl⟩
 simp[Value.cells]at hcs;obtain⟨rfl,rfl,rfl⟩:=hcs;rw[zTX]at hel;have each:∀i,i<n0->∃e:Int×Int,∀k (hk:k<2),W.cell? (a.add (i*2+k))=(prV e)[k]? :=by
  intro i hi;have h1:=hel i hi;rw[aY (by omega),Option.bind_eq_some_iff]at h1;obtain⟨cs,h2,h3⟩:=h1;obtain⟨e,rfl⟩:=zSb h3;refine⟨e,fun k hk=> ?_⟩;have h4:=(World.cells?_some h2).2.2 k hk;rw[<-h4];congr 1;unfold Addr.add;split<;>split<;>split<;>simp_all<;>omega
 obtain⟨qs,hqs,hE⟩:=Jq n0 each;have hL:=zUO qs;refine⟨some a,n0,c0,qs.flatMap fun p=>[p.1,p.2],rfl,row_of fun i hi=> ?_,by omega⟩;rw[aR,hL]at hi;have h1:=hE (i/2) (by omega) (i % 2) (by omega);rw[show i/2*2+i % 2=i by omega]at h1;rw[h1,<-zVc qs (i/2) (i % 2) (by omega) (by omega),show i/2*2+i % 2=i by omega,aY (by rw[aR,hL];omega)]
end opens
end Go.Proofs.YtejmkibjpaoahaaGreatDoor
