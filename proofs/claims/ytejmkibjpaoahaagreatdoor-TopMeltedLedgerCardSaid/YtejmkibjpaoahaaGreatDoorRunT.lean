/- Lemmas. No condition. -/
import Derived.Test.YtejmkibjpaoahaaGreatDoorRunS
import Derived.Maps.RangeRun
import Derived.Laws.IdiomStrings
import Derived.Lib.UnsafeStr
import Derived.Lib.MakeNoZero
set_option linter.unusedVariables false
set_option linter.unusedSimpArgs false
namespace Go.Run
open Go Go.Eng
section app
variable {P:Program}{p:Pr}{ι:Io}{s s':S}{h:Heap}{m:Fm}{e:E}{er:Env}{ty:TypeId}{t:T}{K:Value->Heap->Prop}
section
variable {ats:Array TypeId}{i:TypeInfo}{news:List Value}{x:Value}
theorem oM {o:Op}(hd:iX o=true)(h':Heap)(hk:K undef h')
 (H:∀w:World,w.heap=h->∃w',(execOp (ev er) {dst:=none,op:=o,type:=ty,pos:= "",after:= #[],guard:=none}).run P w= .ok .skip w'/\w'.heap=h'/\Eng.Rest w w'):aI P o ty er h K:=by
 unfold aI;refine And.intro hd fun w hw=> ?_
 obtain⟨w',h1,h2,h3⟩:=H w hw;rw[h1];exact⟨h2▸hk,h3⟩
theorem gG {b:Builtin}{vs:List Value}{f:Array TypeId->TypeId->Array Value->Sem Value}(hb:∀ty cs args,builtin b ats ty cs args=(do let v<-f ats ty args;pure (.value v)))(H:∀(ty:TypeId) (w:World),w.heap=h->∃v w',(f ats ty vs.toArray).run P w= .ok v w'/\Eng.Rest w w'/\Post P ι s h t s' v w'.heap):BI P b ats ι s h t s' vs:=by
 intro er xs ty hx;unfold aI;refine And.intro rfl fun w hw=> ?_
 have hargs:xs.map (ev er)=vs.toArray:=by apply Array.toList_inj.1;simpa using hx
 obtain⟨v,w',h1,h2,h3⟩:=H ty w hw;have:(execOp (ev er) {dst:=none,op:= .call ⟨.builtin b,xs,ats⟩,type:=ty,pos:= "",after:= #[],guard:=none}).run P w= .ok (.value v) w':=by
  simp only[execOp,resolve,invoke,Sem.run_bind,Sem.run_pure,Result.andThen_ok,hargs,hb,h1]
 rw[this];exact⟨h3,h2⟩
structure Src (P:Program)(ats:Array TypeId)(h:Heap)(size m:Nat)(x:Value)(news:List Value):Prop where
 ty:∃xt d,ats[1]? =some xt/\P.underlying xt=some d/\((∃e,d= .slice e)\/d= .string)
 len:∀w:World,w.heap=h->(Builtin.lenOf x).run P w= .ok m w
 cells:∀w:World,w.heap=h->(Builtin.firstCells size m x).run P w= .ok news.toArray w
 part:news.length=m*size->∀n,n<=m->∀w:World,w.heap=h->(Builtin.firstCells size n x).run P w= .ok (news.take (n*size)).toArray w
theorem oq {t e:TypeId}(h0:ats[0]? =some t)(ht:P.underlying t=some (.slice e))(hi:P.info? e=some i){m g off sLen sCap:Nat}{cur:Array Value}{ct:TypeId}(w:World)(hs:Src P ats w.heap i.size m x news)(hg:w.heap[g]? =some (.cells cur ct (0,0)))(h1:∀u∈news,u.oneCell'=true)(hroom:sLen+m<=sCap)(hfit:off+sLen*i.size+news.length<=cur.size):
 (Builtin.append_ ats ty #[.slice (some ⟨g,off,none⟩) sLen sCap,x]).run P w= .ok (.slice (some ⟨g,off,none⟩) (sLen+m) sCap) (w.setRow g (splice cur.toList (off+sLen*i.size) news).toArray):=by
 have hst:=run_storeCells_at P g (off+sLen*i.size) ct news 0 cur w hg (by simpa using hfit) h1;simp only[Nat.add_zero]at hst;have e1:=hs.len w rfl;have e2:=hs.cells w rfl;obtain⟨xt,d,q1,q2,q3⟩:=hs.ty;have e3:(⟨g,off,none⟩:Addr).add (sLen*i.size)=⟨g,off+sLen*i.size,none⟩:=by unfold Addr.add;split<;>simp_all
 rcases q3 with⟨el,rfl⟩|rfl<;>
  simp[Builtin.append_,h0,q1,run_underlying ht,run_underlying q2,sizeOf,typeInfo,hi,e1,hroom,e2,e3,hst,splice]
theorem uy {t e:TypeId}{z:Value}(h0:ats[0]? =some t)(ht:P.underlying t=some (.slice e))(hi:P.info? e=some i)(hz:i.zero=some z){m sLen sCap:Nat}{olds:List Value}{b:Option Addr}(w:World)(hs:Src P ats w.heap i.size m x news)(ho:∀w':World,w'.heap=w.heap->(Builtin.firstCells i.size sLen (.slice b sLen sCap)).run P w'= .ok olds.toArray w')(hgr:sCap<sLen+m)(hby:(sLen+m)*i.bytes<=1000000)(hbn:sLen+m<=1000000):
 (Builtin.append_ ats ty #[.slice b sLen sCap,x]).run P w=
  .ok (.slice (some ⟨w.heap.size,0,none⟩) (sLen+m) (grownCap w (sLen+m) sCap e)) (w.drew.alloc (.cells (olds++news++(Builtin.zeroCells z.cells (grownCap w (sLen+m) sCap e-(sLen+m))).toList).toArray e)):=by
 have hn:¬(sLen+m<=sCap):=by omega
 have h63':¬(9223372036854775807<((sLen:Int)+(m:Int))):=by omega
 have hf:=growslice_fits (bytes:=i.bytes) hgr (by omega);have h48':¬(281474976710656<Builtin.nextslicecap (sLen+m) sCap*i.bytes):=by omega
 have e1:=hs.len w rfl;have e2:=hs.cells w.drew rfl;have e3:=ho w.drew rfl;obtain⟨xt,d,q1,q2,q3⟩:=hs.ty;have key:olds++(news++(Builtin.zeroCells z.cells (grownCap w (sLen+m) sCap e-(sLen+m))).toList)=olds++news++(Builtin.zeroCells z.cells (grownCap w (sLen+m) sCap e-(sLen+m))).toList:=by simp
 rcases q3 with⟨el,rfl⟩|rfl
 .simp[Builtin.append_,h0,q1,run_underlying ht,run_underlying q2,sizeOf,typeInfo,zeroValue,hi,hz,e1,hn,h63',h48',Question.forced,e2,e3,newRow]
  try refine⟨rfl,?_⟩
  congr 2;apply Array.toList_inj.1;simp[grownCap]
 .simp[Builtin.append_,h0,q1,run_underlying ht,run_underlying q2,sizeOf,typeInfo,zeroValue,hi,hz,e1,hn,h63',h48',Question.forced,e2,e3,newRow]
  try refine⟨rfl,?_⟩
  congr 2;apply Array.toList_inj.1;simp[grownCap]
theorem zZ {t e:TypeId}(h0:ats[0]? =some t)(ht:P.underlying t=some (.slice e))(hi:P.info? e=some i)(w:World)(hs:Src P ats w.heap i.size 0 x news):(Builtin.append_ ats ty #[.slice none 0 0,x]).run P w= .ok (.slice none 0 0) w:=by
 have e1:=hs.len w rfl;have e2:=hs.cells w rfl;obtain⟨xt,d,q1,q2,q3⟩:=hs.ty;rcases q3 with⟨el,rfl⟩|rfl<;>
  simp[Builtin.append_,h0,q1,run_underlying ht,run_underlying q2,sizeOf,typeInfo,hi,e1,e2]
end
end app
end Go.Run
namespace Go.Run
open Go Go.Eng
section app2
variable {P:Program}{p:Pr}{ι:Io}{s s':S}{h:Heap}{m:Fm}{e:E}{er:Env}{ty:TypeId}{t:T}{K:Value->Heap->Prop}
section
variable {el:TypeId}{v:Value}
theorem vF {w:World}{r o j:Nat}{cur:Array Value}{ct:TypeId}{fr:Nat×Nat}(hg:w.heap[r]? =some (.cells cur ct fr))(hv:cur[o+j]? =some v):w.cell? ((⟨r,o,none⟩:Addr).add j)=some v:=by
 have hadd:(⟨r,o,none⟩:Addr).add j=⟨r,o+j,none⟩:=by unfold Addr.add;split<;>simp_all
 rw[hadd,cell_of_row w r (o+j) cur ct fr hg];exact hv
theorem p8 (ok:Ok P p)(H:Sim P ι s h){ei:TI}(hei:p.ty el=some ei){x:T}(hv:VR ι x v){cs:List T}{n:Nat}(hc:gF p s el x=some cs)(hn:sliceLen x=some n):
 ∃us,VL ι cs us/\cs.length=n*ei.size/\∃a c,v= .slice a n c/\(∀w:World,w.heap=h->(Builtin.firstCells ei.size n v).run P w= .ok us.toArray w)/\∀k,k<=n->∀w:World,w.heap=h->(Builtin.firstCells ei.size k v).run P w= .ok (us.take (k*ei.size)).toArray w:=by
 unfold gF at hc;split at hc
 .cases hc;simp only[sliceLen,Option.some.injEq]at hn;subst hn;simp only[VR]at hv;subst hv;exact⟨[],rfl,by simp,none,0,rfl,fun w _=>by simp[Builtin.firstCells],fun k _ w _=>by simp[Builtin.firstCells]⟩
 .cases hc;simp only[sliceLen,Option.some.injEq]at hn;subst hn;simp only[VR]at hv;obtain⟨a,c,rfl⟩:=hv;refine⟨[],rfl,by simp,_,_,rfl,fun w _=> ?_,fun k hk w _=> ?_⟩
  .exact run_firstCells_some w ei.size 0 a 0 c [] (by simp) (by simp)
  .obtain rfl:k=0:=by omega
   have:=run_firstCells_some (P:=P) w ei.size 0 a 0 c [] (by simp) (by simp);simpa using this
 .split at hc
  .rename_i ei' b o len h1 hp;rw[hei]at h1;cases h1;obtain⟨y,c,hy,rfl,_⟩:=uh hv hp;have hlen:len=n:=by
    unfold fP at hp;split at hp<;>simp only[sliceLen,Option.some.injEq]at hn<;>cases hp<;>exact hn
   subst hlen;split at hc
   .rename_i row hrow;split at hc
    .rename_i hb;cases hc;have hb:=aH.1 hb;obtain⟨ct,fr,cur,hg,hle,hvl⟩:=row_of H hrow hy;have key:∀k,k<=len->∀w:World,w.heap=h->(Builtin.firstCells ei.size k (.slice (some ⟨y.r,o,none⟩) len c)).run P w= .ok ((cur.toList.drop o).take (k*ei.size)).toArray w:=by
      intro k hk w hw;subst hw;have:k*ei.size<=len*ei.size:=Nat.mul_le_mul_right _ hk;refine run_firstCells_some w ei.size k ⟨y.r,o,none⟩ len c _ (by simp;omega) fun j u hu=> ?_
      rw[List.getElem?_take]at hu;split at hu
      .rw[List.getElem?_drop]at hu;exact vF hg (by simpa using hu)
      .cases hu
     refine⟨(cur.toList.drop o).take (len*ei.size),hvl.sub hb,by simp;omega,_,_,rfl,key len (Nat.le_refl _),fun k hk w hw=> ?_⟩;rw[List.take_take,Nat.min_eq_left (Nat.mul_le_mul_right _ hk)];exact key k hk w hw
    .cases hc
   .cases hc
  .cases hc
theorem BK (a:List UInt8):VL ι (kT a) (a.map fun b=>Value.int .u8 (b.toNat:Int)):=by
 induction a with
 |nil=>simp[kT,VL]
 |cons b a ih=>
  simp only[kT,List.map_cons,VL]at ih ⊢;exact⟨_,_,rfl,by simp only[VR];rfl,ih⟩
theorem Dc (ok:Ok P p)(H:Sim P ι s h){ats:Array TypeId}{ei:TI}(hei:p.ty el=some ei){y:T}(hv:VR ι y v){news:List T}{k:Nat}(hd:We p s el ats.toList[1]? y=some (news,k)):
 ∃us,VL ι news us/\Src P ats h ei.size k v us:=by
 unfold We at hd;split at hd
 .rename_i xt hxt;have hxt:ats[1]? =some xt:=by simpa using hxt
  split at hd
  .rename_i xi hxi;have tx:=ok.tf hxi;split at hd
   .rename_i hdd;split at hd
    .rename_i a;cases hd;simp only[VR]at hv;subst hv;refine⟨_,BK a,⟨⟨xt,_,hxt,tx.string hdd,.inr rfl⟩,fun w _=>rfl,fun w _=> ?_,fun hl n hn w _=> ?_⟩⟩
     .simp only[Builtin.firstCells,Sem.run_pure];congr 1;apply Array.toList_inj.1;simp[ByteArray.data_extract,Array.toList_extract,List.extract]
     .have e1:n*ei.size=n:=by
       simp only[List.length_map]at hl;rcases Nat.eq_zero_or_pos a.length with h0|h0
       .have:n=0:=by omega
        simp[this]
       .have:ei.size=1:=by
         have:=Nat.eq_of_mul_eq_mul_left h0 (show a.length*1=a.length*ei.size by omega);exact this.symm
        rw[this,Nat.mul_one]
      rw[e1];simp only[Builtin.firstCells,Sem.run_pure];congr 1;apply Array.toList_inj.1;simp[ByteArray.data_extract,Array.toList_extract,List.extract,List.map_take]
    .cases hd
   .rename_i el' hdd;split at hd
    .rename_i cs n hcs hn;cases hd;obtain⟨us,h1,h2,a,c,rfl,h3,h4⟩:=p8 ok H hei hv hcs hn;exact⟨us,h1,⟨⟨xt,_,hxt,tx.slice hdd,.inl ⟨_,rfl⟩⟩,fun w _=>rfl,h3,fun _=>h4⟩⟩
    .cases hd
   .cases hd
  .cases hd
 .cases hd
theorem EW (ok:Ok P p){u:Option TypeId}(hd:rW p u=some el):∃t,u=some t/\P.underlying t=some (.slice el):=by
 unfold rW at hd;split at hd
 .split at hd
  .rename_i ti hti;split at hd
   .rename_i el' hdd;cases hd;exact⟨_,rfl,(ok.tf hti).slice hdd⟩
   .cases hd
  .cases hd
 .cases hd
theorem EY {H:Sim P ι s h}{b:Nat}{x:Inf}{o0:VO}(h0:s.at b=some o0)(hx:ι b=some x){h':Heap}{o:VO}{ob:Obj}{y:Inf}
 (hcase:(y.r=x.r/\Upd h h' x.r/\h'[x.r]? =some ob)\/(y.r=h.size/\h'=h.push ob)) (ho:∀ι',Sub ι ι'->OR P ι' y o ob):
 Sim P (ι.put s.nx y) (fM (bG s b none s.nx (dz s.low b)) o) h'/\Ste ι s h (ι.put s.nx y) (fM (bG s b none s.nx (dz s.low b)) o) h':=by
 obtain⟨k1,k2⟩:=Lh H b (low:=dz s.low b) (by rw[iI];omega);generalize hs1:bG s b none s.nx (dz s.low b)=s1 at k1 k2;have hnx:s1.nx=s.nx:=by rw[<-hs1,fq]
 have hlow:s1.low=min s.low b:=by rw[<-hs1,iR,iI]
 have hdead:s1.at b=none:=by
  rw[<-hs1,bO,if_pos ⟨Nk h0,rfl⟩]
 rcases hcase with⟨hr,u,hg⟩|⟨hr,rfl⟩
 .have hn:ι s1.nx=none:=k1.pI (Nat.le_refl _);have hsub:=Io.gU (x:=y) hn;rw[<-hnx];rw[zX];refine⟨⟨?_,?_,?_⟩,⟨hsub,?_,?_,by rw[u.size];exact Nat.le_refl _,fun c hc hc0=>(by rw[bO,if_neg (by omega)];exact k2.dead c hc hc0),?_,?_,?_⟩⟩
  .intro c z hz;rw[fq,u.size];unfold Io.put at hz;split at hz
   .rename_i hc;cases hz;subst hc;rw[hr];exact⟨Nat.lt_succ_self _,(H.fresh b x hx).2⟩
   .have:=k1.fresh c z hz;exact⟨by omega,this.2⟩
  .intro c d z z' hc hd hz hz' hzz;rw[bO]at hc hd;unfold Io.put at hz hz';have other:∀c z,s1.at c≠none->ι c=some z->z.r≠x.r:=by
    intro c z hc hz hzr;have hcb:s.at c≠none:=by
     intro h1;apply hc;rw[<-hs1,bO];split
     .rfl
     .exact h1
    have:=H.inj c b z x hcb (by rw[h0];simp) hz hx hzr;subst this;exact hc hdead
   by_cases hc':c=s1.nx<;>by_cases hd':d=s1.nx
   .omega
   .simp only[hc',if_true,Option.some.injEq]at hz;simp only[hd',if_false]at hz';simp only[hd',and_false,if_false]at hd;subst hz;exact absurd (hzz.symm.trans hr) (other d z' hd hz')
   .simp only[hd',if_true,Option.some.injEq]at hz';simp only[hc',if_false]at hz;simp only[hc',and_false,if_false]at hc;subst hz';exact absurd (hzz.trans hr) (other c z hc hz)
   .simp only[hc',if_false]at hz;simp only[hd',if_false]at hz';simp only[hc',and_false,if_false]at hc;simp only[hd',and_false,if_false]at hd;exact k1.inj c d z z' hc hd hz hz' hzz
  .intro c o' hc;rw[bO]at hc;split at hc
   .rename_i hh;cases hc;obtain⟨_,rfl⟩:=hh;exact⟨y,ob,Io.dm,by rw[hr];exact hg,ho _ hsub⟩
   .rename_i hh;obtain⟨z,ob',h1,h2,h3⟩:=k1.obj c o' hc;refine⟨z,ob',hsub _ _ h1,?_,h3.mono hsub⟩;refine u.get h2 fun hzr=> ?_
    have hcb:s.at c≠none:=by
     intro h1;rw[<-hs1,bO]at hc;split at hc
     .cases hc
     .rw[h1]at hc;cases hc
    have:=H.inj c b z x hcb (by rw[h0];simp) h1 hx hzr;subst this;rw[hdead]at hc;cases hc
  .rw[fq,hnx];omega
  .rw[iR,hlow];omega
  .intro c z hz;unfold Io.put at hz;split at hz
   .rename_i hc;cases hz;refine .inr ⟨by omega,.inr ⟨b,x,hx,hr.symm,?_,by rw[h0];simp⟩⟩;rw[iR,hlow];omega
   .exact .inl hz
  .intro c z hz hc;have:=(H.fresh c z hz).1;refine k2.am c z hz ?_;rw[qY,if_neg (by omega)]at hc;exact hc
  .intro r hr' hb';refine u.old r fun hrx=> ?_
   subst hrx;have:=hb' b x hx rfl;rw[iR,hlow,h0]at this;rcases this with this|this
   .cases this
   .omega
 .have hn:=k1.pI (Nat.le_refl s1.nx);have:=jQ k1 (o:=o) (ob:=ob) (x:=y) hr (ho _ (Io.gU hn));rw[hnx]at this;exact⟨this.1,k2.trans H.fresh this.2⟩
end
end app2
end Go.Run
namespace Go.Run
open Go Go.Eng
section app3
variable {P:Program}{p:Pr}{ι:Io}{s s':S}{h:Heap}{m:Fm}{e:E}{er:Env}{ty:TypeId}{t:T}{K:Value->Heap->Prop}
section
variable {cs:List T}{ei:TI}{el:TypeId}{us:List Value}{w:World}
theorem BZ {g:Nat}{cur:Array Value}{ct:TypeId}(hg:w.heap[g]? =some (.cells cur ct (0,0)))(c:Array Value):Upd w.heap (w.setRow g c).heap g/\(w.setRow g c).heap[g]? =some (.cells c ct (0,0))/\Eng.Rest w (w.setRow g c):=
 ⟨⟨by simp[World.setRow],fun k hk=>setRow_other w g k c hk⟩,setRow_heap w g cur c ct (0,0) hg,⟨rfl,rfl,rfl⟩⟩
theorem Ql (z:Array Value)(n:Nat):(Builtin.zeroCells z n).toList.length=n*z.size:=by rw[Array.length_toList,size_zeroCells]
theorem zf (H:Sim P ι s h){b o:Nat}{ct:TypeId}{tl:Bool}(hb:s.at b=some (.row cs ct tl)){y:Inf}(hy:ι b=some y){vs:List T}(hv:VL ι vs us)(hl:o+vs.length<=cs.length){t:T}{v:Value}(ht:VR ι t v)(hw:w.heap=h):∃cur,h[y.r]? =some (.cells cur ct (0,0))/\o+us.length<=cur.size/\Post P ι s h t (gI s b (.row (spl cs o vs) ct tl)) v (w.setRow y.r (splice cur.toList o us).toArray).heap/\Eng.Rest w (w.setRow y.r (splice cur.toList o us).toArray):=by
 subst hw;obtain⟨cur,hg,hle,hvl,htl⟩:=qZ H hb hy;obtain⟨u,hg',hr⟩:=BZ hg (splice cur.toList o us).toArray;have hor:=Nz (P:=P) (x:=y) hle hvl htl hv hl;obtain⟨q1,q2⟩:=kg H hb hy hor u hg' (low:=min s.low b) (Nat.min_le_left _ _) (.inl (Nat.min_le_right _ _)) (by simp[VO.am]);rw[<-kR]at q1 q2;exact⟨cur,hg,by rw[hv.length];omega,⟨ι,q2,q1,ht⟩,hr⟩
theorem Nc (H:Sim P ι s h)(te:TF P el ei)(hsz:0<ei.size){zs:List Value}{cap n:Nat}(hv:VL ι cs us)(hl:us.length+zs.length=cap*ei.size)(hcap:cap<=maxLen)(hn:n<=cap):
 Post P ι s h (.own s.nx n) (fM s (.row cs el true)) (.slice (some ⟨h.size,0,none⟩) n cap) (h.push (.cells (us++zs).toArray el)):=by
 have hnn:=H.pI (Nat.le_refl s.nx);have:=jQ H (o:= .row cs el true) (ob:= .cells (us++zs).toArray el (0,0)) (x:=⟨h.size,cap,#[],0,0⟩) rfl
  ⟨_,rfl,by simp[hv.length],by have:=VL.mono (Io.gU (x:=⟨h.size,cap,#[],0,0⟩) hnn) cs hv;rw[<-hv.length];simpa using this,fun h=>(by cases h),fun _=>⟨by rw[te.size];exact hsz,by simp[te.size,hl],hcap⟩⟩
 exact⟨_,this.2,this.1,by simp only[VR];exact⟨_,Io.dm,rfl,hn⟩⟩
theorem Dz {need old:Nat}{size:Nat}{z:Array Value}(hz:z.size=size)(hu:us.length=need*size):
 us.length+(Builtin.zeroCells z (grownCap w need old el-need)).toList.length=grownCap w need old el*size:=by
 rw[Ql,hz,hu,<-Nat.add_mul];have:=grownCap_ge w need old el;congr 1;omega
theorem Dp (H:Sim P ι s h)(te:TF P el ei)(hsz:0<ei.size)(hv:VL ι cs us){need old:Nat}(hl:us.length=need*ei.size)(hneed:need<=1000000){z:Value}(hz:z.cells.size=ei.size)(hw:w.heap=h):
 Post P ι s h (.own s.nx need) (fM s (.row cs el true)) (.slice (some ⟨w.heap.size,0,none⟩) need (grownCap w need old el))
  (w.drew.alloc (.cells (us++(Builtin.zeroCells z.cells (grownCap w need old el-need)).toList).toArray el)).heap:=by
 subst hw;exact Nc H te hsz hv (Dz hz hl) (grownCap_le_maxLen w need old el (by simp only[maxLen];omega)) (grownCap_ge w need old el)
theorem Cw {c vs:List Value}{off:Nat}(hl:off+vs.length<=c.length):(splice c off vs).length=c.length:=by simp[splice];omega
theorem vZ (ok:Ok P p)(H:Sim P ι s h){ats:Array TypeId}{u:TypeId}(h0:ats[0]? =some u)(hu:P.underlying u=some (.slice el))(hei:p.ty el=some ei){x:T}{v w:Value}(hv:VR ι x v){news:List T}{k:Nat}(hnews:VL ι news us)(hsrc:Src P ats h ei.size k w us)(hd:qW p s el x news k=some (t,s'))(ty:TypeId)(W:World)(hW:W.heap=h):
 ∃r W',(Builtin.append_ ats ty #[v,w]).run P W= .ok r W'/\Eng.Rest W W'/\Post P ι s h t s' r W'.heap:=by
 have te:=ok.tf hei;obtain⟨inf,hi,hsz,hby⟩:=te.info;obtain⟨z,hz0,hzv⟩:=te.zero;have hz:inf.zero=some z:=by simpa[dJ,hi]using hz0
 unfold qW at hd;rw[hei]at hd;split at hd
 .rename_i ei' old len he hc hn;cases he;obtain⟨os,o1,o2,a,c,hva,o3,_⟩:=p8 ok H hei hv hc hn;split at hd
  .rename_i hcc;simp only[Bool.and_eq_true]at hcc;obtain⟨⟨⟨⟨⟨c1,c2⟩,c3⟩,c4⟩,c5⟩,c6,c7⟩:=hcc;have hzs:z.cells.size=ei.size:=by
    have:=(dw (hzv ι) c6).length;rw[Array.length_toList]at this;rw[this];exact Nat.eq_of_beq_eq_true c7
   have c1:=aH.1 c1;have c2:=aH.1 c2;have c3:=Nat.eq_of_beq_eq_true c3;have c4:=aH.1 c4;have hone:∀q∈us,q.oneCell'=true:=fun q hq=>List.all_eq_true.1 (wD hnews c5) q hq
   have hul:us.length=k*ei.size:=by rw[hnews.length,c3]
   have hol:os.length=len*ei.size:=by rw[o1.length,o2]
   have hneed:len+k<=1000000:=Nat.le_trans (Nat.le_mul_of_pos_right _ c2) c4;have houl:(os++us).length=(len+k)*ei.size:=by rw[List.length_append,hol,hul,Nat.add_mul]
   rw[<-hsz]at hsrc;subst hW;have grow:c<len+k->∃W',(Builtin.append_ ats ty #[v,w]).run P W= .ok (.slice (some ⟨W.heap.size,0,none⟩) (len+k) (grownCap W (len+k) c el)) W'/\Eng.Rest W W'/\
    W'=W.drew.alloc (.cells (os++us++(Builtin.zeroCells z.cells (grownCap W (len+k) c el-(len+k))).toList).toArray el):=by
    intro hgr;rw[hva];exact⟨_,uy h0 hu hi hz W hsrc (fun w' hw'=>by rw[hsz,<-hva];exact o3 w' hw') hgr (by rw[hby];exact c4) hneed,⟨rfl,rfl,rfl⟩,rfl⟩
   have grown:c<len+k->t= .own s.nx (len+k)->s'=fM s (.row (old++news) el true)->∃r W',(Builtin.append_ ats ty #[v,w]).run P W= .ok r W'/\Eng.Rest W W'/\Post P ι s W.heap t s' r W'.heap:=by
    intro hgr ht hs';obtain⟨W',g1,g2,rfl⟩:=grow hgr;subst ht hs';exact⟨_,_,g1,g2,Dp H te c1 (o1.append hnews) houl hneed hzs rfl⟩
   split at hd
   .simp only[VR]at hv;simp only[sliceLen,Option.some.injEq]at hn;subst hn;rw[hv]at hva;obtain⟨qa,_,qc⟩:=Value.slice.inj hva;subst qa;subst qc;split at hd
    .cases hd;refine⟨_,W,by rw[hv];exact zZ h0 hu hi W hsrc,Eng.Rest.refl W,Post.pure H ?_⟩;simp only[VR]
    .rename_i k;simp only[ownRow,Option.some.injEq,Prod.mk.injEq]at hd;obtain⟨rfl,rfl⟩:=hd;have ho:old=[]:=by
      simp only[gF,Option.some.injEq]at hc;exact hc.symm
     subst ho;exact grown (by omega) (by rw[Nat.zero_add]) rfl
   .rename_i b o len' cap;simp only[VR]at hv;obtain⟨y,hy,hv⟩:=hv;simp only[sliceLen,Option.some.injEq]at hn;subst hn;rw[hv]at hva;obtain⟨qa,_,qc⟩:=Value.slice.inj hva;subst qa;subst qc;split at hd
    .rename_i hroom;have hroom:=aH.1 hroom;unfold XV at hd;split at hd
     .rename_i cs ct tl hb;split at hd
      .rename_i hfit;have hfit:=aH.1 hfit;simp only[Option.some.injEq,Prod.mk.injEq]at hd;obtain⟨rfl,rfl⟩:=hd;have hfit':o+len'*ei.size+news.length<=cs.length:=by rw[c3,Nat.add_assoc,<-Nat.add_mul];exact hfit
       obtain⟨cur,q1,q2,q3,q4⟩:=zf (t:= .slice b o (len'+k) cap) (v:= .slice (some ⟨y.r,o,none⟩) (len'+k) cap) H hb hy hnews hfit' (by simp only[VR];exact⟨y,hy,rfl⟩) (w:=W) rfl;refine⟨_,_,?_,q4,q3⟩;rw[hv,<-hsz];exact oq h0 hu hi W hsrc q1 hone hroom (by rw[hsz];exact q2)
      .cases hd
     .cases hd
    .rename_i hroom;have hroom:¬len'+k<=cap:=fun hh=>by rw[aH.2 hh]at hroom;cases hroom
     simp only[ownRow,Option.some.injEq,Prod.mk.injEq]at hd;obtain⟨rfl,rfl⟩:=hd;exact grown (by omega) rfl rfl
   .rename_i b len';simp only[VR]at hv;obtain⟨y,hy,hv,hle⟩:=hv;simp only[sliceLen,Option.some.injEq]at hn;subst hn;rw[hv]at hva;obtain⟨qa,_,qc⟩:=Value.slice.inj hva;subst qa;subst qc;unfold Ud at hd;split at hd
    .rename_i cs ct hb;split at hd
     .rename_i hct;obtain rfl:=Nat.eq_of_beq_eq_true hct;obtain⟨cur,hg,hcl,hvl,htl⟩:=qZ H hb hy;obtain⟨_,hcap,hmax⟩:=htl.2 rfl;rw[te.size]at hcap;have room:∀{us':List Value},us'=us->len'+k<=y.cap->(Builtin.append_ ats ty #[v,w]).run P W= .ok (.slice (some ⟨y.r,0,none⟩) (len'+k) y.cap) (W.setRow y.r (splice cur.toList (len'*ei.size) us).toArray):=by
       intro _ _ hroom;have:=oq (ty:=ty) h0 hu hi W hsrc hg hone hroom (off:=0) (by rw[Nat.zero_add,hsz,hul,<-Nat.add_mul,hcap];exact Nat.mul_le_mul_right _ hroom);rw[Nat.zero_add,hsz]at this;rw[hv];exact this
      split at hd
      .rename_i hfit;have hfit:=aH.1 hfit;simp only[Option.some.injEq,Prod.mk.injEq]at hd;obtain⟨rfl,rfl⟩:=hd;have hroom:len'+k<=y.cap:=by
        have:(len'+k)*ei.size<=y.cap*ei.size:=by rw[<-hcap];exact Nat.le_trans hfit hcl
        exact Nat.le_of_mul_le_mul_right this c1
       obtain⟨cur',q1,q2,q3,q4⟩:=zf (t:= .own b (len'+k)) (v:= .slice (some ⟨y.r,0,none⟩) (len'+k) y.cap) H hb hy (o:=len'*ei.size) hnews (by rw[c3,<-Nat.add_mul];exact hfit) (by simp only[VR];exact⟨y,hy,rfl,hroom⟩) (w:=W) rfl;rw[hg]at q1;cases q1;exact⟨_,_,room rfl hroom,q4,q3⟩
      .simp only[ownRow,Option.some.injEq,Prod.mk.injEq]at hd;obtain⟨rfl,rfl⟩:=hd;rw[fq];have hold:VL ι old (cur.toList.take (len'*ei.size)):=by
        unfold gF at hc;split at hc
        .rename_i h1;cases h1
        .rename_i h1;cases h1
        .rename_i h1 h2;simp only[hei,fP]at hc;simp only[rowAt,hb]at hc;split at hc
         .rename_i hbb;cases hc;have:=hvl.sub (aH.1 hbb);simpa using this
         .cases hc
       by_cases hroom:len'+k<=y.cap
       .obtain⟨u,hg',hr⟩:=BZ hg (splice cur.toList (len'*ei.size) us).toArray;have hsl:len'*ei.size+us.length<=cur.toList.length:=by rw[hul,<-Nat.add_mul,Array.length_toList,hcap];exact Nat.mul_le_mul_right _ hroom
        obtain⟨q1,q2⟩:=EY (H:=H) hb hy (o:= .row (old++news) ct true) (y:=y) (.inl ⟨rfl,u,hg'⟩) fun ι' hs=>by
         refine⟨_,rfl,?_,?_,fun h=>(by cases h),fun _=>⟨by rw[te.size];exact c1,?_,hmax⟩⟩
         .simp only[List.length_append,hold.length.symm,hnews.length.symm,List.size_toArray,splice,List.length_take,List.length_drop];omega
         .have:(splice cur.toList (len'*ei.size) us).take (old++news).length=cur.toList.take (len'*ei.size)++us:=by
           unfold splice;rw[List.take_append_of_le_length]
           .apply List.take_of_length_le;rw[List.length_append,List.length_append,hold.length,hnews.length];exact Nat.le_refl _
           .rw[List.length_append,List.length_append,hold.length,hnews.length];exact Nat.le_refl _
          show VL ι' (old++news) ((splice cur.toList (len'*ei.size) us).toArray.toList.take (old++news).length);rw[List.toList_toArray,this];exact(VL.mono hs _ hold).append (VL.mono hs _ hnews)
         .rw[te.size,<-hcap,List.size_toArray,Cw hsl,Array.length_toList]
        refine⟨_,_,room rfl hroom,hr,_,q2,q1,?_⟩;simp only[VR];exact⟨y,Io.dm,rfl,hroom⟩
       .obtain⟨W',g1,g2,hW'⟩:=grow (by omega);have hheap:W'.heap=W.heap.push (.cells (os++us++(Builtin.zeroCells z.cells (grownCap W (len'+k) y.cap ct-(len'+k))).toList).toArray ct):=by rw[hW'];rfl
        obtain⟨q1,q2⟩:=EY (H:=H) (h':=W'.heap) hb hy (o:= .row (old++news) ct true) (y:=⟨W.heap.size,grownCap W (len'+k) y.cap ct,#[],0,0⟩) (.inr ⟨rfl,hheap⟩) fun ι' hs=>by
         have hll:=Dz (w:=W) (old:=y.cap) (el:=ct) hzs houl;have hvv:=(VL.mono hs _ o1).append (VL.mono hs _ hnews);refine⟨_,rfl,?_,?_,fun h=>(by cases h),fun _=>⟨by rw[te.size];exact c1,?_,grownCap_le_maxLen W _ _ _ (by simp only[maxLen];omega)⟩⟩
         .rw[<-hvv.length];simp
         .have:∀Z:List Value,((os++us++Z).toArray.toList).take (os++us).length=os++us:=fun Z=>by rw[List.toList_toArray];exact List.take_left
          rw[<-hvv.length,this];exact hvv
         .rw[te.size,List.size_toArray,List.length_append];exact hll
        refine⟨_,_,g1,g2,_,q2,q1,?_⟩;simp only[VR];exact⟨_,Io.dm,rfl,grownCap_ge W _ _ _⟩
     .cases hd
    .cases hd
   .cases hd
  .cases hd
 .cases hd
end
end app3
end Go.Run
namespace Go.Run
open Go Go.Eng
section blts
variable {P:Program}{p:Pr}{ι:Io}{s s':S}{h:Heap}{m:Fm}{e:E}{er:Env}{ty:TypeId}{t:T}{K:Value->Heap->Prop}
section
variable {ats:Array TypeId}{v w:Value}{x y:T}
theorem Yh (ok:Ok P p)(H:Sim P ι s h){u xt el:TypeId}{q:IntKind}(h0:ats[0]? =some u)(hu:P.underlying u=some (.slice el))(h1:ats[1]? =some xt)(hxt:P.underlying xt=some (.int q))(hv:VR ι x v)(hw:VR ι y w)(hd:Yy p s el x y=some (t,s')):BI P .append ats ι s h t s' [v,w]:=by
 unfold Yy at hd;split at hd
 .rename_i m ei hei;split at hd
  .rename_i hc;simp only[Bool.and_eq_true]at hc;obtain⟨⟨⟨c1,c2⟩,c3⟩,c4,c5⟩:=hc;have c1:=aH.1 c1;have c2:=aH.1 c2;have c3:=aH.1 c3;have c5:=Nat.eq_of_beq_eq_true c5;simp only[ownRow,Option.some.injEq,Prod.mk.injEq]at hd;obtain⟨rfl,rfl⟩:=hd;have te:=ok.tf hei;obtain⟨inf,hi,hsz,hby⟩:=te.info;obtain⟨z,hz0,hzv⟩:=te.zero;have hz:inf.zero=some z:=by simpa[dJ,hi]using hz0
   have k1:=dw (hzv ι) c4;have hzs:z.cells.size=ei.size:=by
    have:=k1.length;rw[Array.length_toList]at this;rw[this];exact c5
   simp only[VR,Int.ofNat_eq_natCast]at hv hw;subst hv hw;have hm:m+1<=1000000:=Nat.le_trans (Nat.le_mul_of_pos_right _ c2) c3;refine gG (fun _ _ _=>rfl) fun ty W hW=>⟨.slice (some ⟨W.heap.size,0,none⟩) (m+1) (grownCap W (m+1) 0 el),W.drew.alloc (.cells ((List.replicate (m+1) z.cells.toList).flatten++(Builtin.zeroCells z.cells (grownCap W (m+1) 0 el-(m+1))).toList).toArray el),?_,⟨rfl,rfl,rfl⟩,?_⟩
   .have hf:=growslice_fits (need:=m+1) (old:=0) (bytes:=inf.bytes) (by omega) (by rw[hby];omega);have h48:¬(281474976710656<Builtin.nextslicecap (m+1) 0*inf.bytes):=by omega
    have hwrap:IntKind.i64.wrap ((m+1:Nat):Int)=((m+1:Nat):Int):=IntWalk.i64_in _ ⟨by omega,by omega⟩;have hwrap2:IntKind.i64.wrap ((m:Int)+1)=((m+1:Nat):Int):=hwrap;have hlb:¬(281474976710656:Int)<((m+1:Nat):Int)*(inf.bytes:Int):=by
     have:((m+1:Nat):Int)*(inf.bytes:Int)=(((m+1)*inf.bytes:Nat):Int):=by simp
     rw[this,hby];omega
    have hlb2:¬(281474976710656:Int)<((m:Int)+1)*(inf.bytes:Int):=hlb;have hne:¬((m+1)*inf.size=0):=by
     rw[hsz,Nat.mul_eq_zero];omega
    have hz2:¬(inf.size=0):=by omega
    have h63:¬(9223372036854775807:Int)<(m:Int)+1:=by omega
    have hneg:¬((m:Int)+1<0):=by omega
    have hzr:=pW z.cells (m+1);have hzr':Builtin.zeroCells z.cells (m+1)=((List.replicate (m+1) z.cells.toList).flatten).toArray:=hzr;have htn:((m:Int)+1).toNat=m+1:=by omega
    have hfc:(Builtin.firstCells inf.size 0 (.slice none 0 0)).run P W.drew= .ok #[] W.drew:=rfl;simp[Builtin.append_,h0,h1,run_underlying hu,run_underlying hxt,sizeOf,typeInfo,zeroValue,hi,hz,asInt,asIntOf,hwrap2,hlb2,hneg,htn,h63,h48,hz2,Question.forced,newRow,hfc,hzr',grownCap];have e:∀A:Array Value,(List.replicate (m+1) z.cells.toList).flatten.toArray++A=((List.replicate (m+1) z.cells.toList).flatten++A.toList).toArray:=fun A=>by apply Array.toList_inj.1;simp
    rw[if_neg (show¬((m:Int)+1<=0) by omega),if_neg (show¬(9223372036854775807<max ((m:Int)+1) 0) by omega),if_neg hne,e]
   .subst hW;have hl:((List.replicate (m+1) z.cells.toList).flatten).length=(m+1)*ei.size:=by
     simp[hzs]
    exact Dp (need:=m+1) (old:=0) H te c1 (uO k1 (m+1)) hl hm hzs rfl
  .cases hd
 .cases hd
theorem yS {k:Nat}:∀{els:List (List T)},(∀e∈els,e.length=k)->els.flatten.length=els.length*k
 |[],_=>by simp
 |e::els,h=>by
  rw[List.flatten_cons,List.length_append,h e (by simp),yS fun x hx=>h x (by simp[hx]),List.length_cons,Nat.add_mul,Nat.one_mul,Nat.add_comm]
theorem Km (ok:Ok P p)(H:Sim P ι s h){u el:TypeId}{ei:TI}(h0:ats[0]? =some u)(hu:P.underlying u=some (.slice el))(hei:p.ty el=some ei)(hv:VR ι x v){news:List T}{us:List Value}{k:Nat}(hnews:VL ι news us)(hsrc:Src P ats h ei.size k w us)(hd:BN p s el x news k=some (t,s'))(ty:TypeId)(W:World)(hW:W.heap=h):
 ∃r W',(Builtin.append_ ats ty #[v,w]).run P W= .ok r W'/\Eng.Rest W W'/\Post P ι s h t s' r W'.heap:=by
 unfold BN at hd;split at hd
 .rename_i b len els ct hb;unfold XJ at hb;split at hb
  .rename_i b' len';split at hb
   .rename_i els' ct' hat;simp only[Option.some.injEq,Prod.mk.injEq]at hb;obtain⟨rfl,rfl,rfl,rfl⟩:=hb;rw[hei]at hd;simp only at hd;split at hd
    .rename_i hc;simp only[Bool.and_eq_true,List.all_eq_true]at hc;obtain⟨c1,c2,c3,c4⟩:=hc;obtain rfl:=Nat.eq_of_beq_eq_true c1;obtain rfl:=Nat.eq_of_beq_eq_true c2;have c3:=Nat.eq_of_beq_eq_true c3;split at hd
     .rename_i hcond;cases hd;obtain⟨y,ob,g1,g2,pe,cur,p1,p2,p3,p4,p5,p6,p7⟩:=H.obj _ _ hat;have hb16:b'<=16383:=by
       unfold S.at at hat;rw[aJ]at hat;split at hat
       .rename_i hb;exact aH.1 hb
       .cases hat
      have hlen:pe.flatten.length=len'*ei.size:=by
       rw[yS (k:=ei.size) fun e he=>Nat.eq_of_beq_eq_true (c4 e (p1.mem_iff.1 he)),p1.length_eq,c3]
      have hq:∀c,(dX s b' (.row pe.flatten ct' true)).at c=if c=b' then some (.row pe.flatten ct' true)else s.at c:=fun c=>by
       rw[show(dX s b' (.row pe.flatten ct' true)).at c=if b'<=16383/\c=b' then some (.row pe.flatten ct' true)else s.at c from bO s b' c _ _ _];simp only[hb16,true_and]
      have hqn:(dX s b' (.row pe.flatten ct' true)).nx=s.nx:=by unfold dX bG;rw[aJ];split<;>simp[En.aV]
      have hql:(dX s b' (.row pe.flatten ct' true)).low=s.low:=by unfold dX bG;rw[aJ];split<;>simp[En.aV]
      generalize hsr:dX s b' (.row pe.flatten ct' true)=sr at hq hqn hql;have live:∀c,sr.at c≠none->s.at c≠none:=fun c hc=>by
       by_cases hcb:c=b'
       .subst hcb;rw[hat];simp
       .rw[hq,if_neg hcb]at hc;exact hc
      have Hr:Sim P ι sr h:=⟨fun c y hy=>by rw[hqn];exact H.fresh c y hy,fun c d y z hc hd=>H.inj c d y z (live c hc) (live d hd),fun c o ho=>by
       by_cases hcb:c=b'
       .subst hcb;rw[hq,if_pos rfl]at ho;cases ho;exact⟨y,ob,g1,g2,cur,p2,p3,p4,fun h=>(by cases h),fun _=>⟨p5,p6,p7⟩⟩
       .rw[hq,if_neg hcb]at ho;exact H.obj c o ho⟩
      have hap:qW p sr ct' (.own b' len') news 1=some (.own s.nx (len'+1),fM (bG sr b' none sr.nx (dz sr.low b')) (.row (pe.flatten++news) ct' true)):=by
       have e1:gF p sr ct' (.own b' len')=some pe.flatten:=by
        have e2:rowAt sr b'=some pe.flatten:=by unfold rowAt;rw[hq,if_pos rfl]
        simp only[gF,fP,hei,e2];rw[aH.2 (by omega)];simp only[List.drop_zero];rw[<-hlen,List.take_length]
       have hnl:Nat.ble ((len'+1)*ei.size) pe.flatten.length=false:=by
        cases hz:Nat.ble ((len'+1)*ei.size) pe.flatten.length with
        |false=>rfl
        |true=>
         have:=aH.1 hz;simp only[Bool.and_eq_true]at hcond;have h1:=aH.1 hcond.1.1.1.1.1;rw[hlen,Nat.add_mul,Nat.one_mul]at this;omega
       unfold qW;rw[hei,e1];simp only[sliceLen];rw[hcond];simp only[Ud];rw[hq,if_pos rfl];simp only;rw[Nat.beq_refl,hnl];simp only[ownRow];have hnx0:(bG sr b' none sr.nx (dz sr.low b')).nx=s.nx:=by rw[<-hqn];unfold bG;rw[aJ];split<;>simp[En.aV]
       rw[hnx0]
      obtain⟨r,W',a1,a2,a3⟩:=vZ ok Hr h0 hu hei hv hnews hsrc hap ty W hW;refine⟨r,W',a1,a2,?_⟩;obtain⟨ι',q1,q2,q3⟩:=a3;have hb0:b'<s.nx:=(H.fresh b' y g1).1;have nO:∀(z:S) (o:VO) (c:Nat),(fM z o).at c=(if z.nx<=16383/\c=z.nx then some o else z.at c)/\(fM z o).nx=z.nx+1/\(fM z o).low=z.low:=fun z o c=>by
       rw[zX];refine⟨bO z z.nx c _ _ _,?_,?_⟩
       .unfold bG;rw[aJ];split<;>simp[En.aV]
       .unfold bG;rw[aJ];split<;>simp[En.aV]
      have sV:∀(z:S) (l:Nat) (c:Nat),(bG z b' none z.nx l).at c=(if c=b' then none else z.at c)/\(bG z b' none z.nx l).nx=z.nx/\(bG z b' none z.nx l).low=l:=fun z l c=>by
       refine⟨by rw[bO];simp only[hb16,true_and],?_,?_⟩
       .unfold bG;rw[aJ];split<;>simp[En.aV]
       .unfold bG;rw[aJ];split<;>simp[En.aV]
      have atR:∀c,(fM (bG sr b' none sr.nx (dz sr.low b')) (.row (pe.flatten++news) ct' true)).at c=if s.nx<=16383/\c=s.nx then some (.row (pe.flatten++news) ct' true)else if c=b' then none else s.at c:=fun c=>by
       rw[(nO _ _ c).1,(sV sr _ c).1,(sV sr (dz sr.low b') 0).2.1,hqn];by_cases hcb:c=b'
       .simp[hcb]
       .simp only[hcb,if_false];rw[hq,if_neg hcb]
      have atB:∀c,(fM (bG s b' none s.nx (dz s.low b')) (.bag (els'++[news]) ct')).at c=if s.nx<=16383/\c=s.nx then some (.bag (els'++[news]) ct')else if c=b' then none else s.at c:=fun c=>by
       rw[(nO _ _ c).1,(sV s _ c).1,(sV s (dz s.low b') 0).2.1]
      have nR:(fM (bG sr b' none sr.nx (dz sr.low b')) (.row (pe.flatten++news) ct' true)).nx=s.nx+1:=by rw[(nO _ _ 0).2.1,(sV sr _ 0).2.1,hqn]
      have nB:(fM (bG s b' none s.nx (dz s.low b')) (.bag (els'++[news]) ct')).nx=s.nx+1:=by rw[(nO _ _ 0).2.1,(sV s _ 0).2.1]
      have lR:(fM (bG sr b' none sr.nx (dz sr.low b')) (.row (pe.flatten++news) ct' true)).low=dz s.low b':=by rw[(nO _ _ 0).2.2,(sV sr _ 0).2.2,hql]
      have lB:(fM (bG s b' none s.nx (dz s.low b')) (.bag (els'++[news]) ct')).low=dz s.low b':=by rw[(nO _ _ 0).2.2,(sV s _ 0).2.2]
      generalize fM (bG sr b' none sr.nx (dz sr.low b')) (.row (pe.flatten++news) ct' true)=sR at q1 q2 atR nR lR;generalize fM (bG s b' none s.nx (dz s.low b')) (.bag (els'++[news]) ct')=sB at atB nB lB;have oth:∀c,c≠s.nx->sB.at c=sR.at c:=fun c hc=>by
       rw[atB,atR];simp only[hc,and_false,if_false]
      have liveB:∀c,sB.at c≠none->sR.at c≠none:=fun c hc=>by
       by_cases hcn:c=s.nx
       .subst hcn;rw[atB]at hc;rw[atR];by_cases h16:s.nx<=16383
        .simp[h16]
        .simp only[h16,false_and,if_false]at hc ⊢;exact hc
       .rw[<-oth c hcn];exact hc
      have noneR:∀c,s.at c=none->sr.at c=none:=fun c hc=>by
       by_cases hcb:c=b'
       .subst hcb;rw[hat]at hc;cases hc
       .rw[hq,if_neg hcb];exact hc
      have amr:∀c,bZ sr c=bZ s c:=fun c=>by
       unfold bZ;by_cases hcb:c=b'
       .subst hcb;rw[hat,hq,if_pos rfl];rfl
       .rw[hq,if_neg hcb]
      refine⟨ι',⟨q1.sub,by rw[nB];omega,by rw[lB];have:=q1.low;rw[lR,hql]at this;exact this,q1.size,fun c hc hz=> ?_,fun c y hy=> ?_,fun c y hy hz=> ?_,fun r hr hcc=>q1.old r hr fun c y hy he=> ?_⟩,⟨fun c y hy=>by rw[nB,<-nR];exact q2.fresh c y hy,fun c d y z hc hd=>q2.inj c d y z (liveB c hc) (liveB d hd),fun c o ho=> ?_⟩,q3⟩
      .have:=q1.dead c (by rw[hqn];exact hc) (noneR c hz);rw[oth c (by omega)];exact this
      .rw[lB];rcases q1.grow c y hy with g|⟨g,g'|⟨d,z,e1,e2,e3,e4⟩⟩
       .exact .inl g
       .exact .inr ⟨by rw[<-hqn];exact g,.inl g'⟩
       .exact .inr ⟨by rw[<-hqn];exact g,.inr ⟨d,z,e1,e2,by rw[<-lR];exact e3,live d e4⟩⟩
      .rw[<-amr];refine q1.am c y hy ?_;have hcn:c≠s.nx:=fun e=>by have:=(H.fresh c y hy).1;omega
       unfold bZ at hz ⊢;rw[oth c hcn]at hz;exact hz
      .rcases hcc c y hy he with g|⟨g,g'⟩
       .exact .inl (noneR c g)
       .exact .inr ⟨by rw[lR,<-lB];exact g,by rw[amr];exact g'⟩
      .by_cases hcn:c=s.nx
       .subst hcn;by_cases h16:s.nx<=16383
        .rw[atB]at ho;simp only[h16,true_and,if_true]at ho;cases ho;obtain⟨z,ob2,e1,e2,cur2,e3,e4,e5,e6,e7⟩:=q2.obj s.nx (.row (pe.flatten++news) ct' true) (by rw[atR];simp[h16]);obtain⟨f1,f2,f3⟩:=e7 rfl;have hfl:(pe++[news]).flatten=pe.flatten++news:=by simp
         exact⟨z,ob2,e1,e2,pe++[news],cur2,p1.append_right _,e3,by rw[hfl];exact e4,by rw[hfl];exact e5,f1,f2,f3⟩
        .rw[atB]at ho;refine q2.obj s.nx o ?_;rw[atR];simp only[h16,false_and,if_false]at ho ⊢;exact ho
       .rw[oth c hcn]at ho;exact q2.obj c o ho
     .cases hd
    .cases hd
   .cases hb
  .cases hb
 .cases hd
theorem SQ (ok:Ok P p)(H:Sim P ι s h)(hv:VR ι x v)(hw:VR ι y w)(hd:YW p s ats.toList x y=some (t,s')):BI P .append ats ι s h t s' [v,w]:=by
 unfold YW at hd;split at hd
 .rename_i el hel;obtain⟨u,hu1,hu⟩:=EW ok hel;have h0:ats[0]? =some u:=by simpa using hu1
  split at hd
  .rename_i hint;unfold SB descOf at hint;split at hint
   .rename_i q hq;split at hq
    .rename_i xt hxt;split at hq
     .rename_i ti hti;simp only[Option.some.injEq]at hq;exact Yh ok H h0 hu (by simpa using hxt) ((ok.tf hti).int hq) hv hw hd
     .cases hq
    .cases hq
   .cases hint
  split at hd
  .rename_i news k hs;cases hei:p.ty el with
   |none=>
    have hn:BN p s el x news k=none:=by
     unfold BN;split
     .rw[hei]
     .rfl
    rw[hn]at hd;unfold qW at hd;rw[hei]at hd;simp at hd
   |some ei=>
    obtain⟨us,h1,h2⟩:=Dc ok H hei hw hs;split at hd
    .rename_i r hbag;cases hd;exact gG (fun _ _ _=>rfl) fun ty W hW=>Km ok H h0 hu hei hv h1 h2 hbag ty W hW
    .exact gG (fun _ _ _=>rfl) fun ty W hW=>vZ ok H h0 hu hei hv h1 h2 hd ty W hW
  .cases hd
 .cases hd
theorem Y1 (ok:Ok P p)(H:Sim P ι s h)(hv:VR ι x v)(hw:VR ι y w)(hd:UF p s ats.toList x y=some (t,s')):BI P .copy ats ι s h t s' [v,w]:=by
 unfold UF at hd;split at hd
 .rename_i el hel;obtain⟨u,hu1,hu⟩:=EW ok hel;have h0:ats[0]? =some u:=by simpa using hu1
  split at hd
  .rename_i ei src k n hei hs hn;have te:=ok.tf hei;obtain⟨inf,hi,hsz,hby⟩:=te.info;obtain⟨us,h1,h2⟩:=Dc ok H hei hw hs;obtain⟨a,c,hva⟩:=yK hv hn;split at hd
   .rename_i b o n' hp;obtain⟨y',c',hy,hvs,_⟩:=uh hv hp;rw[hva]at hvs;cases hvs;unfold TC at hd;split at hd
    .rename_i cs ct tl hb;split at hd
     .rename_i hc;cases hd;rw[iI]at *;simp only[Bool.and_eq_true]at hc;obtain⟨⟨c1,c2⟩,c3⟩:=hc;have c1:=aH.1 c1;have c3:=Nat.eq_of_beq_eq_true c3;have hul:us.length=k*ei.size:=by rw[h1.length,c3]
      have hmk:min k n*ei.size<=k*ei.size:=Nat.mul_le_mul_right _ (Nat.min_le_left _ _);have hone:=wD (h1.take (min k n*ei.size)) c2;refine gG (fun _ _ _=>rfl) fun ty W hW=> ?_
      obtain⟨cur,q1,q2,q3,q4⟩:=zf (t:= .int .i64 (.ofNat (min k n))) (v:= .int .i64 (min k n:Nat)) H hb hy (o:=o) (h1.take (min k n*ei.size)) (by rw[List.length_take];omega) (by simp only[VR];rfl) (w:=W) hW;subst hW;have e1:=h2.len W rfl;have e2:(Builtin.firstCells ei.size (min k n) w).run P W= .ok (us.take (min k n*ei.size)).toArray W:=by
       exact h2.part hul _ (Nat.min_le_left _ _) W rfl
      have hst:=run_storeCells_at P y'.r o ct (us.take (min k n*ei.size)) 0 cur W q1 (by simpa using q2) (fun x hx=>List.all_eq_true.1 hone x hx);simp only[Nat.add_zero]at hst;refine⟨_,_,?_,q4,q3⟩;rw[hva];have e3:Nat.min k n=min k n:=rfl;simp only[Builtin.copy_,Sem.run_bind,run_underlying hu,sizeOf,typeInfo];simp[h0,run_underlying hu,hi,hsz,e1,e2,e3,hst,splice,goInt]
     .cases hd
    .cases hd
   .split at hd
    .rename_i hc3 _;have hc3:=Nat.eq_of_beq_eq_true hc3;cases hd;simp only[VR]at hv;refine gG (fun _ _ _=>rfl) fun ty W hW=>⟨.int .i64 0,W,?_,Eng.Rest.refl W,by rw[hW];exact Post.pure H (by simp only[VR])⟩
     subst hW;have e1:=h2.len W rfl;rw[hv];have e2:=h2.part (by rw[h1.length,hc3]) 0 (Nat.zero_le _) W rfl;simp[e2,Builtin.copy_,h0,run_underlying hu,sizeOf,typeInfo,hi,hsz,e1,goInt]
    .cases hd
  .cases hd
 .cases hd
theorem Ox {l:List T}:∀n,(rep n l).length=n*l.length
 |0=>by simp[rep]
 |n+1=>by rw[rep,List.length_append,Ox n,Nat.add_mul];omega
theorem PM {l:List T}(hl:l.all vo=true):∀n,(rep n l).all vo=true
 |0=>by simp[rep]
 |n+1=>by rw[rep,List.all_append,hl,PM hl n];rfl
theorem Uy (ok:Ok P p)(H:Sim P ι s h)(hv:VR ι x v)(hd:ND p s ats.toList x=some (t,s')):BI P .clear ats ι s h t s' [v]:=by
 have unit:VR ι (.tup []) (.tuple #[]):=by simp only[VR];exact⟨_,rfl,by simp[VL]⟩
 unfold ND at hd;split at hd
 .rename_i kt vt hdd;obtain⟨u,ti,hu,tf,hdt⟩:=ik ok hdd;have h0:ats[0]? =some u:=by simpa using hu
  have hu:=tf.map hdt;split at hd
  .rename_i b;simp only[VR]at hv;obtain⟨y,hy,rfl⟩:=hv;split at hd
   .rename_i es c hb;cases hd;obtain⟨ents,h1,h2,h3⟩:=jN H hb hy;have hbc:jZ [] c:=by simp[jZ]
    refine gG (fun _ _ _=>rfl) fun ty W hW=>⟨.tuple #[],{W with heap:=W.heap.setIfInBounds y.r (.map #[] c)},?_,⟨rfl,rfl,rfl⟩,?_⟩
    .subst hW;have g1:=MapKept.run_getObj_map (P:=P) h1;have g2:=MapKept.run_setObj_map (P:=P) (.map #[] c) h1;simp[Builtin.clear_,h0,run_underlying hu,g1,g2]
    .rw[<-hW]at H ⊢;exact gW H hb hy (o:= .map [] c) (ob:= .map #[] c) ⟨#[],rfl,rfl,hbc⟩ unit
   .cases hd
  .cases hd;simp only[VR]at hv;subst hv;refine gG (fun _ _ _=>rfl) fun ty W hW=>⟨.tuple #[],W,?_,Eng.Rest.refl W,by rw[hW];exact Post.pure H unit⟩
   simp[Builtin.clear_,h0,run_underlying hu]
  .cases hd
 .rename_i el hdd;obtain⟨u,ti,hu,tf,hdt⟩:=ik ok hdd;have h0:ats[0]? =some u:=by simpa using hu
  have hu:=tf.slice hdt;split at hd
  .cases hd;simp only[VR]at hv;subst hv;refine gG (fun _ _ _=>rfl) fun ty W hW=>⟨.tuple #[],W,?_,Eng.Rest.refl W,by rw[hW];exact Post.pure H unit⟩
   simp[Builtin.clear_,h0,run_underlying hu]
  .split at hd
   .rename_i b o n ei hp hei;have te:=ok.tf hei;obtain⟨z,z1,z2⟩:=CV te;obtain⟨y,c,hy,rfl,_⟩:=uh hv hp;unfold PG at hd;split at hd
    .rename_i cs ct tl hb;split at hd
     .rename_i hc;cases hd;simp only[Bool.and_eq_true]at hc;obtain⟨⟨⟨c1,c2⟩,c3⟩,c4⟩:=hc;have c1:=aH.1 c1;have c4:=Nat.eq_of_beq_eq_true c4;have hz:=dw (z2 ι) c2;have hzs:z.cells.size=ei.size:=by rw[<-c4,<-hz.length,Array.length_toList]
      have hrv:=uO hz n;have hone:=wD hrv (PM c3 n);refine gG (fun _ _ _=>rfl) fun ty W hW=> ?_
      obtain⟨cur,q1,q2,q3,q4⟩:=zf (t:= .tup []) (v:= .tuple #[]) H hb hy (o:=o) hrv (by rw[Ox,c4];exact c1) unit (w:=W) hW;subst hW;cases n with
      |zero=>
       refine⟨.tuple #[],W,by simp[Builtin.clear_,h0,run_underlying hu],Eng.Rest.refl W,?_⟩;have e1:(W.setRow y.r (splice cur.toList o (List.replicate 0 z.cells.toList).flatten).toArray)=W:=by
        have e2:(splice cur.toList o (List.replicate 0 z.cells.toList).flatten).toArray=cur:=by simp[splice]
        rw[e2];exact setRow_self W y.r cur ct (0,0) q1
       rw[e1]at q3;exact q3
      |succ n=>
       refine⟨.tuple #[],_,?_,q4,q3⟩;have hst:=run_storeCells_at P y.r o ct (List.replicate (n+1) z.cells.toList).flatten 0 cur W q1 (by simpa using q2) (fun x hx=>List.all_eq_true.1 hone x hx);simp only[Nat.add_zero]at hst;have e3:(Builtin.zeroCells z.cells (n+1)).toList=(List.replicate (n+1) z.cells.toList).flatten:=by
        unfold Builtin.zeroCells;rw[pW]
       have e4:(splice cur.toList o (List.replicate (n+1) z.cells.toList).flatten)=cur.toList.take o++(List.replicate (n+1) z.cells.toList).flatten++cur.toList.drop (o+(List.replicate (n+1) z.cells.toList).flatten.length):=rfl;rw[e4];simp only[Builtin.clear_,Sem.run_bind,run_underlying hu,h0];simp[run_underlying hu,z1,e3,hst]
     .cases hd
    .cases hd
   .cases hd
 .cases hd
theorem zAg (ok:Ok P p)(H:Sim P ι s h)(hv:VR ι x v)(hd:ZQ p s ats.toList x=some (t,s')):BI P .cap ats ι s h t s' [v]:=by
 unfold ZQ at hd;split at hd
 .rename_i el hdd;obtain⟨u,ti,hu,tf,hdt⟩:=ik ok hdd;have h0:ats[0]? =some u:=by simpa using hu
  have hu:=tf.slice hdt;split at hd
  .cases hd;simp only[VR]at hv;subst hv;refine gG (fun _ _ _=>rfl) fun ty W hW=>⟨.int .i64 0,W,?_,Eng.Rest.refl W,by rw[hW];exact Post.pure H (by simp only[VR])⟩
   simp[Builtin.cap_,h0,run_underlying hu,goInt]
  .cases hd;rename_i c;simp only[VR]at hv;obtain⟨y,hy,rfl⟩:=hv;refine gG (fun _ _ _=>rfl) fun ty W hW=>⟨.int .i64 c,W,?_,Eng.Rest.refl W,by rw[hW];exact Post.pure H (by simp only[VR];rfl)⟩
   simp[Builtin.cap_,h0,run_underlying hu,goInt]
  .cases hd
 .cases hd
end
end blts
end Go.Run
namespace Go.Run
open Go Go.Eng
section maps3
variable {P:Program}{p:Pr}{ι:Io}{s s':S}{h:Heap}{m:Fm}{e:E}{er:Env}{ty:TypeId}{t:T}{K:Value->Heap->Prop}
section
variable {ats:Array TypeId}{k:T}{u:TypeId}{v:Value}{x:T}
theorem pG (es:Array MapEntry)(i:Nat):(es.eraseIdxIfInBounds i).toList=es.toList.eraseIdx i:=by
 unfold Array.eraseIdxIfInBounds;split
 .simp only[Array.toList_eraseIdx]
 .rename_i h;rw[List.eraseIdx_of_length_le];simpa using h
theorem FR.ut {l:List MapEntry}{j:Nat}{r:Option (Nat×Value)}(H:FR l 0 v (some j) r):∃e,l[j]? =some e/\e.key=v/\r=some (j,e.val):=by
 obtain⟨e,h1,h2,h3⟩:=H;exact⟨e,h1,h2,by rw[h3,Nat.zero_add]⟩
theorem JM:VR ι (.tup []) (.tuple #[]):=by simp only[VR];exact⟨_,rfl,by simp[VL]⟩
theorem uI:VR ι fB undef:=by simp[fB,VR,undef,VL]
theorem Ba {ki:TI}{k:T}:∀{es:List Ent} {j:Nat},iT ki k es=some (some j)->(∃y,es[j]? =some y/\fV ki k y.1=some true)/\∀y∈es.take j,fV ki k y.1=some false
 |[],j,h=>by simp[iT]at h
 |x::es,j,h=>by
  rcases tH h with⟨h1,h2⟩|⟨h1,o,h2,h3⟩
  .cases h2;exact⟨⟨x,rfl,h1⟩,by simp⟩
  .cases o with
   |none=>cases h3
   |some i=>
    simp only[Option.map_some,Option.some.injEq]at h3;subst h3;obtain⟨⟨y,h4,h5⟩,h6⟩:=Ba h2;refine⟨⟨y,by simpa using h4,h5⟩,fun z hz=> ?_⟩;rw[List.take_succ_cons]at hz;rcases List.mem_cons.1 hz with rfl|hz
    .exact h1
    .exact h6 z hz
theorem KP {ki:TI}{k:T}:∀{es:List Ent} {j:Nat} {y:Ent},es[j]? =some y->fV ki k y.1=some true->(∀z∈es.take j,fV ki k z.1=some false)->iT ki k es=some (some j)
 |[],j,y,h,_,_=>by simp at h
 |x::es,0,y,h,h1,_=>by simp at h;subst h;simp[iT,h1]
 |x::es,j+1,y,h,h1,h2=>by
  have h3:=h2 x (by simp);have h4:=KP (es:=es) (j:=j) (y:=y) (by simpa using h) h1 fun z hz=>h2 z (by simp[hz])
  simp[iT,h3,h4]
theorem RV {ki:TI}{es es':List Ent}{j j':Nat}(hs:Xa es es' j j')(hf:iT ki k es=some (some j)):iT ki k es'=some (some j'):=by
 obtain⟨⟨y,h1,h2⟩,h3⟩:=hs;obtain⟨⟨y',h4,h5⟩,h6⟩:=Ba hf;rw[h1]at h4;cases h4;exact KP h2 h5 fun z hz=>h6 z (h3.subset hz)
theorem SK (ok:Ok P p)(H:Sim P ι s h){w:Value}(hv:VR ι x v)(hw:VR ι k w)(hd:Yt p s ats.toList x k=some (t,s')):BI P .delete ats ι s h t s' [v,w]:=by
 unfold Yt at hd;split at hd
 .rename_i u hu;have h0:ats[0]? =some u:=by simpa using hu
  split at hd
  .rename_i ki vi b hm;obtain⟨kt,vt,hu,tk,tv⟩:=o9 ok hm;simp only[VR]at hv;obtain⟨y,hy,rfl⟩:=hv;unfold Om at hd;split at hd
   .rename_i es c hb;obtain⟨ents,h1,h2,h3⟩:=jN H hb hy;split at hd
    .rename_i j hk hf;cases hd;refine gG (fun _ _ _=>rfl) fun ty W hW=>⟨.tuple #[],{W with heap:=W.heap.setIfInBounds y.r (.map (ents.eraseIdxIfInBounds j) c)},?_,⟨rfl,rfl,rfl⟩,?_⟩
     .subst hW;obtain⟨r,q1,q2⟩:=jH tk hw hk h2 hf W;obtain⟨e',_,_,rfl⟩:=q2.ut;have c1:=gM tk hw hk ents.isEmpty W;have g1:=MapKept.run_getObj_map (P:=P) h1;have g2:=MapKept.run_setObj_map (P:=P) (.map (ents.eraseIdxIfInBounds j) c) h1;simp[Builtin.delete_,h0,run_underlying hu,g1,g2,c1,q1]
     .rw[<-hW]at H ⊢;exact gW H hb hy (o:= .map (KM es j) c) (ob:= .map (ents.eraseIdxIfInBounds j) c) ⟨_,rfl,by rw[pG];exact h2.del,h3.del⟩ JM
    .rename_i hk hf;cases hd;refine gG (fun _ _ _=>rfl) fun ty W hW=>⟨.tuple #[],{W with heap:=W.heap.setIfInBounds y.r (.map ents c)},?_,⟨rfl,rfl,rfl⟩,?_⟩
     .subst hW;obtain⟨r,q1,q2⟩:=jH tk hw hk h2 hf W;have q2:r=none:=q2;subst q2;have c1:=gM tk hw hk ents.isEmpty W;have g1:=MapKept.run_getObj_map (P:=P) h1;have g2:=MapKept.run_setObj_map (P:=P) (.map ents c) h1;simp[Builtin.delete_,h0,run_underlying hu,g1,g2,c1,q1]
     .rw[<-hW]at H ⊢;exact gW H hb hy (o:= .map es c) (ob:= .map ents c) ⟨_,rfl,h2,h3⟩ JM
    .cases hd
   .rename_i es j hb;split at hd
    .rename_i i hk hf;split at hd
     .rename_i hij;cases hd;obtain rfl:=Nat.eq_of_beq_eq_true hij;obtain⟨y',ob,h1,h2,h3⟩:=H.obj b _ hb;rw[hy]at h1;cases h1;obtain⟨es',j',en,a1,a2,a3,a4,a5,rfl⟩:=h3;simp only[Bool.false_eq_true,if_false]at h2;refine gG (fun _ _ _=>rfl) fun ty W hW=>⟨.tuple #[],{W with heap:=W.heap.setIfInBounds y.r (.map (y.gh.eraseIdxIfInBounds j') y.clock)},?_,⟨rfl,rfl,rfl⟩,?_⟩
      .subst hW;obtain⟨r,q1,q2⟩:=jH tk hw hk a1 (RV a3 hf) W;obtain⟨e',_,_,rfl⟩:=q2.ut;have c1:=gM tk hw hk y.gh.isEmpty W;have g1:=MapKept.run_getObj_map (P:=P) h2;have g2:=MapKept.run_setObj_map (P:=P) (.map (y.gh.eraseIdxIfInBounds j') y.clock) h2;simp[Builtin.delete_,h0,run_underlying hu,g1,g2,c1,q1]
      .rw[<-hW]at H h2 ⊢;obtain⟨uu,hg⟩:=Fw (bA h2) (.map (y.gh.eraseIdxIfInBounds j') y.clock);obtain⟨q1,q2⟩:=kg H hb hy (o:= .tZ es i true) (ob:= .map (y.gh.eraseIdxIfInBounds j') y.clock) ⟨es',j',en,a1,a2,a3,a4,a5,rfl⟩ uu hg (low:=s.low) (Nat.le_refl _) (.inr rfl) (fun _=>rfl);exact⟨ι,q2,q1,JM⟩
     .cases hd
    .cases hd
   .cases hd
  .cases hd
 .cases hd
theorem jy (ok:Ok P p){el:TypeId}(hb:isByte p el=true):∃ei,p.ty el=some ei/\ei.size=1/\P.underlying el=some (.int .u8)/\TF P el ei:=by
 unfold isByte at hb;split at hb
 .rename_i ei hei;split at hb
  .rename_i hd;exact⟨ei,hei,Nat.eq_of_beq_eq_true hb,(ok.tf hei).int hd,ok.tf hei⟩
  .cases hb
 .cases hb
theorem tL:∀{cs:List T} {us:List Value} {l:List UInt8},VL ι cs us->bytesOf cs=some l->us=l.map (fun b=>Value.int .u8 (b.toNat:Int))/\l.length=cs.length
 |[],us,l,hv,hb=>by
  simp only[bytesOf,Option.some.injEq]at hb;subst hb;simp only[VL]at hv;exact⟨hv,rfl⟩
 |c::cs,us,l,hv,hb=>by
  simp only[VL]at hv;obtain⟨v,rest,rfl,h1,h2⟩:=hv;unfold bytesOf at hb;split at hb
  .rename_i hcc;cases hcc
  .rename_i n r hcc;cases hcc;split at hb
   .rename_i t hlt ht;cases hb;obtain⟨h3,h4⟩:=tL h2 ht;have hlt:=bX.1 hlt;simp only[VR,Int.ofNat_eq_natCast]at h1;have:(UInt8.ofNat n).toNat=n:=by simp;omega
    simp[h1,h3,this,h4]
   .cases hb
  .cases hb
theorem VA (H:Sim P ι s h)(hv:VR ι x v)(hd:NG s x=some (t,s')):BI P .unsafeSliceData ats ι s h t s' [v]:=by
 unfold NG at hd;split at hd
 .cases hd;simp only[VR]at hv;subst hv;exact gG (fun _ _ _=>rfl) fun ty W hW=>⟨.pointer none,W,rfl,Eng.Rest.refl W,by rw[hW];exact Post.pure H (by simp only[VR])⟩
 .rename_i b n;cases hd;simp only[VR]at hv;obtain⟨y,hy,rfl,hle⟩:=hv;exact gG (fun _ _ _=>rfl) fun ty W hW=>⟨_,W,Lib.run_unsafeSliceData_row W ats ty _ _ _ (by omega),Eng.Rest.refl W,by rw[hW];exact Post.pure H (by simp only[VR];exact⟨y,hy,rfl⟩)⟩
 .rename_i b o n c;cases hd;simp only[VR]at hv;obtain⟨y,hy,rfl⟩:=hv;exact gG (fun _ _ _=>rfl) fun ty W hW=>⟨_,W,Lib.run_unsafeSliceData_row W ats ty _ _ _ (by omega),Eng.Rest.refl W,by rw[hW];exact Post.pure H (by simp only[VR];exact⟨y,hy,rfl⟩)⟩
 .cases hd
theorem Ak {w:World}{g k:Nat}{cur:Array Value}{ct:TypeId}{fr:Nat×Nat}(hg:w.heap[g]? =some (.cells cur ct fr))(hk:k≠0):
 ∃fr',(w.freeze ⟨g,0,none⟩ k).heap[g]? =some (.cells cur ct fr')/\Upd w.heap (w.freeze ⟨g,0,none⟩ k).heap g/\Eng.Rest w (w.freeze ⟨g,0,none⟩ k):=by
 obtain⟨lo,hi⟩:=fr;unfold World.freeze;rw[if_neg hk];exact⟨_,by simp only[Array.getElem?_modify,if_true,hg,Option.map_some];rfl,⟨by simp,fun b hb=>by simp[Array.getElem?_modify,Ne.symm hb]⟩,⟨rfl,rfl,rfl⟩⟩
theorem YT (ok:Ok P p)(H:Sim P ι s h){y:T}{w:Value}(hx:VR ι x v)(hy:VR ι y w)(hd:UO p s ats.toList x y=some (t,s')):BI P .unsafeString ats ι s h t s' [v,w]:=by
 unfold UO at hd;split at hd
 .rename_i pt it hats;have hats:ats= #[pt,it]:=Array.toList_inj.1 hats;subst hats;cases hd;simp only[VR]at hx hy;subst hx hy;exact gG (fun _ _ _=>rfl) fun ty W hW=>⟨.string .empty,W,Lib.run_unsafeString_none W pt it ty none,Eng.Rest.refl W,by rw[hW];exact Post.pure H (by simp only[VR];rfl)⟩
 .rename_i pt it b n hats;have hats:ats= #[pt,it]:=Array.toList_inj.1 hats;subst hats;unfold TN at hd;split at hd
  .rename_i pi hpi;split at hd
   .rename_i el hdd;have hup:=(ok.tf hpi).ptr hdd;split at hd
    .rename_i cs ct tl hb;split at hd
     .rename_i l hc hl;cases hd;simp only[Bool.and_eq_true]at hc;obtain⟨⟨⟨c1,c2⟩,c3⟩,c4⟩:=hc;obtain rfl:=Nat.eq_of_beq_eq_true c1;obtain⟨ei,hei,hsz,hu8,te⟩:=jy ok c2;have c3:=aH.1 c3;have c4:=aH.1 c4;simp only[VR]at hx hy;obtain⟨yy,hyy,rfl⟩:=hx;obtain⟨cur,hg,hle,hvl,htl⟩:=qZ H hb hyy;have hv1:=hvl.take (n+1);rw[List.take_take,Nat.min_eq_left c3]at hv1;obtain⟨hcs,hll⟩:=tL hv1 hl;have hlen:l.length=n+1:=by rw[hll,List.length_take];omega
      have hce:P.cellsOf el=1:=by
       obtain⟨i,h1,h2,_⟩:=te.info;simp[Program.cellsOf,h1,h2,hsz]
      subst hy;have hne:l≠[]:=by rintro rfl;simp at hlen
      have hnn:(Int.ofNat (n+1))=(l.length:Int):=by rw[hlen];rfl
      rw[hnn];refine gG (fun _ _ _=>rfl) fun ty W hW=>⟨.string ⟨l.toArray⟩,W.freeze ⟨yy.r,0,none⟩ l.length,?_,?_,?_⟩
      .subst hW;refine Lib.run_unsafeString_row W pt it ty el hup hce yy.r cur.size ?_ l hne (by omega) (by omega) fun j x hj=> ?_
       .unfold World.shape?;rw[hg]
       .refine vF hg (o:=0) ?_;have h1:(l.map fun b=>Value.int .u8 (b.toNat:Int))[j]? =some (.int .u8 (x.toNat:Int)):=by simp[hj]
        rw[<-hcs,List.getElem?_take]at h1;split at h1
        .simpa using h1
        .cases h1
      .subst hW;exact(Ak hg (by omega)).choose_spec.2.2
      .subst hW;obtain⟨fr',g1,g2,_⟩:=Ak hg (k:=l.length) (by omega);obtain⟨q1,q2⟩:=kg H hb hyy (o:= .ro cs el) (ob:= .cells cur el fr') ⟨cur,fr',rfl,hle,hvl⟩ g2 g1 (low:=dz s.low b) (by rw[iI];exact Nat.min_le_left _ _) (.inl (by rw[iI];exact Nat.min_le_right _ _)) (by simp[VO.am]);exact⟨ι,q2,q1,by simp only[VR]⟩
     .cases hd
    .cases hd
   .cases hd
  .cases hd
 .cases hd
theorem QP (ok:Ok P p)(re:RE ι m e er)(H:Sim P ι s h){b:Builtin}{xs:Array Operand}{vs:List T}(hvs:qE m e xs.toList=some vs)(hd:BO p s b ats.toList vs=some (t,s')):aI P (.call ⟨.builtin b,xs,ats⟩) ty er h (Post P ι s h t s'):=by
 have hv:=vI re hvs;have one:∀{x},vs=[x]->∃v,VR ι x v/\(xs.map (ev er)).toList=[v]:=by
  intro x hx;subst hx;obtain⟨v,h1,h2⟩:=hv.one;exact⟨v,h2,by simpa using h1⟩
 have two:∀{x y},vs=[x,y]->∃v w,VR ι x v/\VR ι y w/\(xs.map (ev er)).toList=[v,w]:=by
  intro x y hx;subst hx;obtain⟨v,w,h1,h2,h3⟩:=hv.two;exact⟨v,w,h2,h3,by simpa using h1⟩
 unfold BO at hd;split at hd
 .obtain⟨v,h1,h2⟩:=one rfl;exact zBB ok H h1 hd _ _ _ h2
 .obtain⟨v,h1,h2⟩:=one rfl;exact zAg ok H h1 hd _ _ _ h2
 .obtain⟨v,h1,h2⟩:=one rfl;exact Uy ok H h1 hd _ _ _ h2
 .obtain⟨v,w,h1,h2,h3⟩:=two rfl;exact zBO H h1 h2 hd _ _ _ h3
 .obtain⟨v,w,h1,h2,h3⟩:=two rfl;exact zAT H h1 h2 hd _ _ _ h3
 .obtain⟨v,w,h1,h2,h3⟩:=two rfl;exact SQ ok H h1 h2 hd _ _ _ h3
 .obtain⟨v,w,h1,h2,h3⟩:=two rfl;exact Y1 ok H h1 h2 hd _ _ _ h3
 .obtain⟨v,w,h1,h2,h3⟩:=two rfl;exact SK ok H h1 h2 hd _ _ _ h3
 .obtain⟨v,h1,h2⟩:=one rfl;exact VA H h1 hd _ _ _ h2
 .obtain⟨v,w,h1,h2,h3⟩:=two rfl;exact YT ok H h1 h2 hd _ _ _ h3
 .cases hd
theorem s_call (ok:Ok P p)(re:RE ι m e er)(H:Sim P ι s h){c:Call}(hd:zU p m e s c=some (t,s')):aI P (.call c) ty er h (Post P ι s h t s'):=by
 obtain⟨ce,xs,ats⟩:=c;unfold zU at hd;split at hd
 .rename_i b hb;have hb:ce= .builtin b:=hb;subst hb;split at hd
  .rename_i vs hvs;exact QP ok re H hvs hd
  .cases hd
 .cases hd
theorem gN (es:Array MapEntry)(i:Nat)(f:MapEntry->MapEntry):(es.modify i f).toList=es.toList.modify i f:=by
 apply List.ext_getElem?;intro j;simp[Array.getElem?_modify,List.getElem?_modify]
theorem Cy (ok:Ok P p)(H:Sim P ι s h){v:T}{xv kv vv:Value}(hx:VR ι x xv)(hk:VR ι k kv)(hv:VR ι v vv)(hd:SY p s u x k v=some s'):
 ∃h',Post P ι s h fB s' undef h'/\∀W:World,W.heap=h->(Instr.mapUpdate u xv kv vv).run P W= .ok () {W with heap:=h'}:=by
 unfold SY at hd;split at hd
 .rename_i ki vi b hm;obtain⟨kt,vt,hu,tk,tv⟩:=o9 ok hm;simp only[VR]at hx;obtain⟨y,hy,rfl⟩:=hx;split at hd
  .rename_i es c hb;obtain⟨ents,h1,h2,h3⟩:=jN H hb hy;split at hd
   .rename_i hs;split at hd
    .rename_i j hf;cases hd;refine⟨h.setIfInBounds y.r (.map (ents.modify j fun e=>{e with key:=kv,val:=vv}) c),?_,fun W hW=> ?_⟩
     .refine gW H hb hy (o:= .map (wW (fun e=>(k,v,e.2.2)) es j) c) ⟨_,rfl,?_,jZ.mod (f:=fun e=>(k,v,e.2.2)) (fun _=>rfl) h3⟩ uI;rw[gN];exact EL.mod (f:=fun e=>(k,v,e.2.2)) (g:=fun e=>{e with key:=kv,val:=vv}) (fun x e hxe=>⟨hk,hv,hxe.2.2⟩) h2
     .subst hW;obtain⟨r,q1,q2⟩:=jH tk hk hs h2 hf W;obtain⟨e',q3,q4,rfl⟩:=q2.ut;have c1:=gM tk hk hs false W;have g1:=MapKept.run_getObj_map (P:=P) h1;have g2:=MapKept.run_setObj_map (P:=P) (.map (ents.modify j fun e=>{e with key:=kv,val:=vv}) c) h1;have q5:ents[j]? =some e':=by simpa using q3
      have st:=xS (P:=P) hk hs W;simp[Instr.mapUpdate,run_underlying hu,g1,c1,q1,q5,q4,st,g2]
    .rename_i hf;cases hd;refine⟨h.setIfInBounds y.r (.map (ents.push {key:=kv,val:=vv,born:=c}) (c+1)),?_,fun W hW=> ?_⟩
     .refine gW H hb hy (o:= .map (es++[(k,v,c)]) (c+1)) ⟨_,rfl,?_,h3.push⟩ uI;rw[Array.toList_push];exact h2.append ⟨_,[],rfl,⟨hk,hv,rfl⟩,rfl⟩
     .subst hW;obtain⟨r,q1,q2⟩:=jH tk hk hs h2 hf W;have q2:r=none:=q2;subst q2;have c1:=gM tk hk hs false W;have g1:=MapKept.run_getObj_map (P:=P) h1;have g2:=MapKept.run_setObj_map (P:=P) (.map (ents.push {key:=kv,val:=vv,born:=c}) (c+1)) h1;simp[Instr.mapUpdate,run_underlying hu,g1,c1,q1,g2]
    .cases hd
   .cases hd
  .cases hd
 .cases hd
theorem JU (ok:Ok P p)(re:RE ι m e er)(H:Sim P ι s h){x k v:Operand}(hd:kH p m e s u x k v=some (t,s')):aI P (.mapUpdate u x k v) ty er h (Post P ι s h t s'):=by
 unfold kH at hd;split at hd
 .rename_i xv kv vv hx hk hv;split at hd
  .rename_i s1 hs;cases hd;obtain⟨h',q1,q2⟩:=Cy ok H (ai re hx) (ai re hk) (ai re hv) hs;refine oM rfl h' q1 fun W hW=>⟨{W with heap:=h'},?_,rfl,rfl,rfl,rfl⟩
   simp[execOp,q2 W hW]
  .cases hd
 .cases hd
theorem FZ (ok:Ok P p)(H:Sim P ι s h){xv kv:Value}(hx:VR ι x xv)(hk:VR ι k kv)(hd:Ef p s u x k=some (t,s')):
 ∃v h',Post P ι s h t s' v h'/\∀W:World,W.heap=h->(Instr.mapEntry u xv kv).run P W= .ok v {W with heap:=h'}:=by
 unfold Ef at hd;split at hd
 .rename_i ki vi b hm;obtain⟨kt,vt,hu,tk,tv⟩:=o9 ok hm;obtain⟨z,z1,z2⟩:=CV tv;simp only[VR]at hx;obtain⟨y,hy,rfl⟩:=hx;split at hd
  .rename_i es c hb;obtain⟨ents,h1,h2,h3⟩:=jN H hb hy;split at hd
   .rename_i hs;split at hd
    .rename_i j hf;split at hd
     .rename_i en hen;cases hd;obtain⟨e',g1,g2⟩:=h2.get hen;refine⟨.tuple #[e'.val,.int .i64 e'.born],h.setIfInBounds y.r (.map (ents.modify j fun e=>{e with key:=kv}) c),?_,fun W hW=> ?_⟩
      .refine gW H hb hy (o:= .map (wW (fun e=>(k,e.2.1,e.2.2)) es j) c) ⟨_,rfl,?_,jZ.mod (f:=fun e=>(k,e.2.1,e.2.2)) (fun _=>rfl) h3⟩ ?_
       .rw[gN];exact EL.mod (f:=fun e=>(k,e.2.1,e.2.2)) (g:=fun e=>{e with key:=kv}) (fun x e hxe=>⟨hk,hxe.2.1,hxe.2.2⟩) h2
       .simp only[VR];exact⟨_,rfl,by simp[VL,VR,g2.2.1,g2.2.2]⟩
      .subst hW;obtain⟨r,q1,q2⟩:=jH tk hk hs h2 hf W;obtain⟨e'',q3,q4,rfl⟩:=q2.ut;rw[g1]at q3;cases q3;have c1:=gM tk hk hs false W;have g3:=MapKept.run_getObj_map (P:=P) h1;have g4:=MapKept.run_setObj_map (P:=P) (.map (ents.modify j fun e=>{e with key:=kv}) c) h1;have q5:ents[j]? =some e':=by simpa using g1
       have st:=xS (P:=P) hk hs W;simp[Instr.mapEntry,run_underlying hu,g3,c1,q1,q5,q4,st,g4,goInt]
     .cases hd
    .rename_i hf;cases hd;refine⟨.tuple #[z,.int .i64 c],h.setIfInBounds y.r (.map (ents.push {key:=kv,val:=z,born:=c}) (c+1)),?_,fun W hW=> ?_⟩
     .refine gW H hb hy (o:= .map (es++[(k,vi.zero,c)]) (c+1)) ⟨_,rfl,?_,h3.push⟩ ?_
      .rw[Array.toList_push];exact h2.append ⟨_,[],rfl,⟨hk,z2 ι,rfl⟩,rfl⟩
      .simp only[VR];exact⟨_,rfl,by simp[VL,VR,z2 ι]⟩
     .subst hW;obtain⟨r,q1,q2⟩:=jH tk hk hs h2 hf W;have q2:r=none:=q2;subst q2;have c1:=gM tk hk hs false W;have g1:=MapKept.run_getObj_map (P:=P) h1;have g2:=MapKept.run_setObj_map (P:=P) (.map (ents.push {key:=kv,val:=z,born:=c}) (c+1)) h1;simp[Instr.mapEntry,run_underlying hu,g1,c1,q1,g2,z1,goInt]
    .cases hd
   .cases hd
  .cases hd
 .cases hd
theorem Kz (ok:Ok P p)(re:RE ι m e er)(H:Sim P ι s h){x k:Operand}(hd:mR p m e s u x k=some (t,s')):aI P (.mapEntry u x k) ty er h (Post P ι s h t s'):=by
 unfold mR at hd;split at hd
 .rename_i xv kv hx hk;obtain⟨v,h',q1,q2⟩:=FZ ok H (ai re hx) (ai re hk) hd;refine az rfl v h' q1 fun W hW=>⟨{W with heap:=h'},?_,rfl,rfl,rfl,rfl⟩
  simp[execOp,q2 W hW]
 .cases hd
theorem RI {es:List Ent}:∀{l:List MapEntry} {w j:Nat},EL ι es l->Jm w es=some j->l.findIdx? (fun e=>(e.born:Int)==(w:Int))=some j:=by
 induction es with
 |nil=>intro l w j _ h;simp[Jm]at h
 |cons x es ih=>
  intro l w j hl h;obtain⟨e,l,rfl,h2,h3⟩:=hl.cons';simp only[Jm]at h;rw[List.findIdx?_cons];split at h
  .rename_i hb;cases h;have:=Nat.eq_of_beq_eq_true hb;rw[h2.2.2]at this;simp[this]
  .rename_i hb;split at h
   .rename_i i hi;cases h;have hne:((e.born:Int)==(w:Int))=false:=by
     rw[beq_eq_false_iff_ne];intro hh;have:w=x.2.2:=by rw[h2.2.2];omega
     rw[this]at hb;have hr:Nat.beq x.2.2 x.2.2=true:=Nat.beq_refl _;rw[hr]at hb;cases hb
    rw[hne,ih h3 hi];simp
   .cases h
theorem Gc (re:RE ι m e er)(H:Sim P ι s h){x k v:Operand}(hd:jf p m e s x k v=some (t,s')):aI P (.entryStore u x k v) ty er h (Post P ι s h t s'):=by
 unfold jf at hd;split at hd
 .rename_i xv kv vv hx hk hv;split at hd
  .rename_i s1 hs;cases hd
   replace hx:=ai re hx
   replace hk:=ai re hk
   replace hv:=ai re hv
   unfold Ow at hs;split at hs
   .rename_i b q w;simp only[VR]at hx hk;obtain⟨y,hy,hx⟩:=hx;split at hs
    .rename_i es c hb;obtain⟨ents,h1,h2,h3⟩:=jN H hb hy;split at hs
     .rename_i j hj;cases hs;have hf:=RI h2 hj;have q1:Post P ι s h fB (gI s b (.map (wW (fun e=>(e.1,vv,e.2.2)) es j) c)) undef (h.setIfInBounds y.r (.map (ents.modify j fun e=>{e with val:=ev er v}) c)):=by
       refine gW H hb hy (o:= .map (wW (fun e=>(e.1,vv,e.2.2)) es j) c) ⟨_,rfl,?_,jZ.mod (f:=fun e=>(e.1,vv,e.2.2)) (fun _=>rfl) h3⟩ uI;rw[gN];exact EL.mod (f:=fun e=>(e.1,vv,e.2.2)) (g:=fun e=>{e with val:=ev er v}) (fun x e hxe=>⟨hxe.1,hv,hxe.2.2⟩) h2
      refine oM rfl _ q1 fun W hW=>⟨{W with heap:=h.setIfInBounds y.r (.map (ents.modify j fun e=>{e with val:=ev er v}) c)},?_,rfl,rfl,rfl,rfl⟩
      subst hW;have g1:=MapKept.run_getObj_map (P:=P) h1;have g2:=MapKept.run_setObj_map (P:=P) (.map (ents.modify j fun e=>{e with val:=ev er v}) c) h1;have hf':ents.findIdx? (fun e=>(e.born:Int)==(w:Int))=some j:=by
       have:∀(a:Array MapEntry) (f:MapEntry->Bool),a.findIdx? f=a.toList.findIdx? f:=fun a f=>by cases a;simp
       rw[this,hf]
      simp[execOp,Instr.entryStore,hx,hk,asInt,asIntOf,g1,hf',g2]
     .cases hs
    .cases hs
   .cases hs
  .cases hd
 .cases hd
end
end maps3
end Go.Run
namespace Go.Run
open Go Go.Eng
section maps4
variable {P:Program}{p:Pr}{ι:Io}{s s':S}{h:Heap}{m:Fm}{e:E}{er:Env}{ty:TypeId}{t:T}{K:Value->Heap->Prop}
section
variable {a b:TypeId}{es:List Ent}{l:List MapEntry}{x:Operand}
theorem EL.filter {f:Nat->Bool}(H:EL ι es l):EL ι (es.filter fun x=>f x.2.2) (l.filter fun e=>f e.born):=by
 induction es generalizing l with
 |nil=>have H:l=[]:=H;subst H;exact rfl
 |cons x es ih=>
  obtain⟨e,l,rfl,h2,h3⟩:=H.cons';have hb:x.2.2=e.born:=h2.2.2;simp only[List.filter_cons,hb];split
  .exact⟨e,_,rfl,h2,ih h3⟩
  .exact ih h3
theorem EL.mem (H:EL ι es l){e:MapEntry}(he:e∈l):∃x∈es,ER ι x e:=by
 induction es generalizing l with
 |nil=>have H:l=[]:=H;subst H;cases he
 |cons x es ih=>
  obtain⟨e',l,rfl,h2,h3⟩:=H.cons';rcases List.mem_cons.1 he with rfl|he
  .exact⟨x,by simp,h2⟩
  .obtain⟨y,h4,h5⟩:=ih h3 he;exact⟨y,by simp[h4],h5⟩
theorem VL.mk2 {a b:T}{u v:Value}(h1:VR ι a u)(h2:VR ι b v):VL ι [a,b] [u,v]:=by
 simp only[VL];exact⟨_,_,rfl,h1,_,_,rfl,h2,rfl⟩
theorem VL.mk3 {a b c:T}{u v w:Value}(h1:VR ι a u)(h2:VR ι b v)(h3:VR ι c w):VL ι [a,b,c] [u,v,w]:=by
 simp only[VL];exact⟨_,_,rfl,h1,_,_,rfl,h2,_,_,rfl,h3,rfl⟩
theorem seen_eq (seen:List Nat)(w:Nat):seen.toArray.contains w=seen.any fun b=>Nat.beq b w:=by
 rw[List.contains_toArray,Bool.eq_iff_iff,List.contains_iff_mem,List.any_eq_true];constructor
 .intro h;exact⟨w,h,Nat.beq_refl w⟩
 .rintro⟨b,h1,h2⟩;rw[Nat.eq_of_beq_eq_true h2]at h1;exact h1
theorem lL {c:Nat}(hl:EL ι es l)(hb:jZ es c):(l.map (·.born)).Nodup:=by
 have:l.map (·.born)=es.map (·.2.2):=by
  clear hb;induction es generalizing l with
  |nil=>have hl:l=[]:=hl;subst hl;rfl
  |cons x es ih=>obtain⟨e,l,rfl,h2,h3⟩:=hl.cons';simp[ih h3,h2.2.2]
 rw[this];exact hb.1.imp (fun h=>Nat.ne_of_lt h)
theorem WE {ents:Array MapEntry}(hl:EL ι es ents.toList)(seen:List Nat):EL ι (es.filter fun e=> !(seen.any fun b=>Nat.beq b e.2.2)) (leftOf ents seen.toArray).toList:=by
 unfold leftOf;rw[Array.toList_filter];have:(fun e:MapEntry=> !seen.toArray.contains e.born)=fun e=>(fun w=> !(seen.any fun b=>Nat.beq b w)) e.born:=by
  funext e;rw[seen_eq]
 rw[this];exact hl.filter (f:=fun w=> !(seen.any fun b=>Nat.beq b w))
theorem Iy (H:Sim P ι s h){r mp since last:Nat}{seen:List Nat}(hr:s.at r=some (.iU mp since seen last)){y:Inf}(hy:ι r=some y):∃x,ι mp=some x/\h[y.r]? =some (.mapIter (some x.r) since seen.toArray last):=by
 obtain⟨y',ob,h1,h2,h3⟩:=H.obj r _ hr;rw[hy]at h1;cases h1;obtain⟨x,h4,rfl⟩:=h3;exact⟨x,h4,h2⟩
theorem Kv (re:RE ι m e er)(H:Sim P ι s h){r mp since last:Nat}{seen:List Nat}(hx:opd m e x=some (.ptr r 0))(hr:s.at r=some (.iU mp since seen last))(hd:Dl s (.ptr r 0) false=some (t,s')):
 aI P (.next x false) ty er h (Post P ι s h t s'):=by
 replace hx:=ai re hx
 simp only[VR]at hx;obtain⟨y,hy,hx⟩:=hx;obtain⟨z,hz,hit⟩:=Iy H hr hy;simp only[Dl,hr]at hd;split at hd
 .rename_i es clock hb;obtain⟨ents,h1,h2,h3⟩:=jN H hb hz;split at hd
  .rename_i hc;simp only[Bool.and_eq_true]at hc;have hsl:=aH.1 hc.1;have hold:∀x∈ents.toList,x.born<since:=by
    intro e he;obtain⟨q,h4,h5⟩:=h2.mem he;have:=List.all_eq_true.1 hc.2 q h4;have:=bX.1 this;have h6:q.2.2=e.born:=h5.2.2;omega
   have hlf:=WE h2 seen;split at hd
   .rename_i hl;cases hd;rw[hl]at hlf;have hlf:(leftOf ents seen.toArray).toList=[]:=hlf;refine az rfl (.tuple #[.bool false]) h (Post.pure H (by simp only[VR];exact⟨_,rfl,by simp[VL,VR]⟩)) fun W hW=> ?_
    subst hW;rcases run_next_at (P:=P) W ty y.r z.r since last seen.toArray ents clock hit h1 hold hsl with⟨_,q2⟩|⟨e,he,_⟩
    .exact⟨W,by simp[execOp,hx,q2],rfl,Eng.Rest.refl W⟩
    .rw[hlf]at he;cases he
   .rename_i en hl;cases hd;rw[hl]at hlf;obtain⟨e0,l0,q0,q1,q2⟩:=hlf.cons';have q2:l0=[]:=q2;subst q2;have hpost:Post P ι s h (.tup [.bool true,en.1,en.2.1]) (gI s r (.iU mp since (seen++[en.2.2]) clock)) (.tuple #[.bool true,e0.key,e0.val]) (h.setIfInBounds y.r (.mapIter (some z.r) since (seen.toArray.push e0.born) clock)):=by
     refine gW H hr hy (o:= .iU mp since (seen++[en.2.2]) clock) ⟨z,hz,?_⟩ ?_
     .have h6:en.2.2=e0.born:=q1.2.2;rw[h6];simp
     .simp only[VR];exact⟨_,rfl,VL.mk3 (by simp only[VR]) q1.1 q1.2.1⟩
    refine az rfl _ _ hpost fun W hW=> ?_
    subst hW;rcases run_next_at (P:=P) W ty y.r z.r since last seen.toArray ents clock hit h1 hold hsl with⟨q3,_⟩|⟨e,he,w1,hw1,hrun⟩
    .rw[<-Array.length_toList,q0]at q3;cases q3
    .rw[q0]at he;obtain rfl:e=e0:=by simpa using he
     refine⟨ChangeMaps.setBlock w1 y.r (.mapIter (some z.r) since (seen.toArray.push e.born) clock),by simp only[execOp,hx,Sem.run_bind,hrun,Result.andThen_ok,Sem.run_pure],?_,?_⟩
     .rcases hw1 with rfl|rfl<;>rfl
     .rcases hw1 with rfl|rfl<;>exact⟨rfl,rfl,rfl⟩
   .cases hd
  .cases hd
 .cases hd
theorem Yl (re:RE ι m e er)(H:Sim P ι s h){b:Bool}(hd:zh p m e s x b=some (t,s')):aI P (.next x b) ty er h (Post P ι s h t s'):=by
 unfold zh at hd;split at hd
 .rename_i xv hx;have hd':=hd;unfold Dl at hd;split at hd
  .rename_i r;split at hd
   .rename_i a pos hr;exact NC re H hx hr hd'
   .rename_i mp since seen last hr;exact Kv re H hx hr hd'
   .cases hd
  .cases hd
 .cases hd
theorem xy {a:Array Nat}{w:Nat}(h:a.back? =some w):∃b:Array Nat,a=b.push w:=by
 have h0:a.size≠0:=by
  intro h0;have:a= #[]:=Array.eq_empty_of_size_eq_zero h0;subst this;simp at h
 obtain⟨b,c,rfl⟩:=Array.eq_push_of_size_ne_zero h0;simp only[Array.back?_push,Option.some.injEq]at h;exact⟨b,by rw[h]⟩
theorem QU (H:Sim P ι s h){x:T}{xv:Value}(hx:VR ι x xv)(hd:LD s x=some t):∃v,VR ι t v/\∀W:World,W.heap=h->(Instr.entry xv).run P W= .ok v W:=by
 unfold LD at hd;split at hd
 .rename_i r;simp only[VR]at hx;obtain⟨y,hy,rfl⟩:=hx;split at hd
  .rename_i mp hr;obtain⟨y',ob,h1,h2,h3⟩:=H.obj r _ hr;rw[hy]at h1;cases h1;obtain⟨z,since,seen,hz,rfl,hbk⟩:=h3;split at hd
   .rename_i es j hb;split at hd
    .rename_i en hen;cases hd;obtain⟨z',ob,h4,h5,h6⟩:=H.obj mp _ hb;rw[hz]at h4;cases h4;obtain⟨es',j',e0,a1,a2,a3,a4,a5,rfl⟩:=h6;simp only[Bool.false_eq_true,if_false]at h5;obtain⟨⟨w,b1,b2⟩,_⟩:=a3;rw[hen]at b1;cases b1;obtain⟨e1,c1,c2⟩:=a1.get b2;have a4':z.gh.toList[j']? =some e0:=by simpa using a4
     rw[a4']at c1;cases c1;obtain⟨sn,hsn⟩:=xy hbk;subst hsn;rw[<-a5]at h2;refine⟨.tuple #[e0.key,e0.val],?_,fun W hW=> ?_⟩
     .simp only[VR];exact⟨_,rfl,VL.mk2 c2.1 c2.2.1⟩
     .subst hW;exact run_entry_at W y.r z.r since sn z.gh z.clock e0 h2 h5 (List.mem_of_getElem? a4') (lL a1 a2)
    .cases hd
   .cases hd
  .rename_i mp since w last hr;obtain⟨y',ob,g1,g2,g3⟩:=H.obj r _ hr;rw[hy]at g1;cases g1;obtain⟨z,arr,hz,rfl,hbk⟩:=g3;split at hd
   .rename_i es clock hb;split at hd
    .rename_i hcl;split at hd
     .rename_i en hf;cases hd;obtain rfl:=Nat.eq_of_beq_eq_true hcl;obtain⟨ents,h1,h2,h3⟩:=jN H hb hz;have hm:=List.mem_of_find?_eq_some hf;have hw:=List.find?_some hf;have hw:=Nat.eq_of_beq_eq_true hw;obtain⟨j,hj⟩:=List.getElem?_of_mem hm;obtain⟨e0,c1,c2⟩:=h2.get hj;have h6:en.2.2=e0.born:=c2.2.2;obtain⟨sn,hsn⟩:=xy hbk;subst hsn;rw[<-hw,h6]at g2;refine⟨.tuple #[e0.key,e0.val],?_,fun W hW=> ?_⟩
      .simp only[VR];exact⟨_,rfl,VL.mk2 c2.1 c2.2.1⟩
      .subst hW;exact run_entry_at W y.r z.r since sn ents _ e0 g2 h1 (List.mem_of_getElem? c1) (lL h2 h3)
     .cases hd
    .cases hd
   .cases hd
  .rename_i mp since seen last hr;obtain⟨y',ob,g1,g2,g3⟩:=H.obj r _ hr;rw[hy]at g1;cases g1;obtain⟨z,arr,c,hz,rfl,hso,hsc,hcl'⟩:=g3;split at hd
   .rename_i es clock w hb hl;split at hd
    .rename_i hcl;simp only[Bool.and_eq_true]at hcl;split at hd
     .rename_i en hf;cases hd;obtain rfl:=Nat.eq_of_beq_eq_true hcl.1;obtain rfl:=hcl' (aH.1 hcl.2.2);obtain⟨ents,h1,h2,h3⟩:=jN H hb hz;have hm:=List.mem_of_find?_eq_some hf;have hw:=List.find?_some hf;have hw:=Nat.eq_of_beq_eq_true hw;obtain⟨j,hj⟩:=List.getElem?_of_mem hm;obtain⟨e0,c1,c2⟩:=h2.get hj;have h6:en.2.2=e0.born:=c2.2.2;obtain⟨sn,hsn⟩:=xy (hso.2 _ hl (bX.1 hcl.2.1));subst hsn;rw[<-hw,h6]at g2;refine⟨.tuple #[e0.key,e0.val],?_,fun W hW=> ?_⟩
      .simp only[VR];exact⟨_,rfl,VL.mk2 c2.1 c2.2.1⟩
      .subst hW;exact run_entry_at W y.r z.r since sn ents _ e0 g2 h1 (List.mem_of_getElem? c1) (lL h2 h3)
     .cases hd
    .cases hd
   .cases hd
  .rename_i mp since seen last hr;obtain⟨z,hz,hit⟩:=Iy H hr hy;split at hd
   .rename_i es clock w hb hl;split at hd
    .rename_i hcl;split at hd
     .rename_i en hf;cases hd;obtain rfl:=Nat.eq_of_beq_eq_true hcl;obtain⟨ents,h1,h2,h3⟩:=jN H hb hz;obtain⟨sn,hsn⟩:∃sn,seen=sn++[w]:=by
       obtain⟨sn,hh⟩:=List.getLast?_eq_some_iff.1 hl;exact⟨sn,hh⟩
      subst hsn;have hm:=List.mem_of_find?_eq_some hf;have hw:=List.find?_some hf;have hw:=Nat.eq_of_beq_eq_true hw;obtain⟨j,hj⟩:=List.getElem?_of_mem hm;obtain⟨e0,c1,c2⟩:=h2.get hj;have h6:en.2.2=e0.born:=c2.2.2;have e2:(sn++[w]).toArray=sn.toArray.push e0.born:=by rw[<-h6,hw];simp
      rw[e2]at hit;refine⟨.tuple #[e0.key,e0.val],?_,fun W hW=> ?_⟩
      .simp only[VR];exact⟨_,rfl,VL.mk2 c2.1 c2.2.1⟩
      .subst hW;exact run_entry_at W y.r z.r since sn.toArray ents _ e0 hit h1 (List.mem_of_getElem? c1) (lL h2 h3)
     .cases hd
    .cases hd
   .cases hd
  .cases hd
 .cases hd
theorem Ot (re:RE ι m e er)(H:Sim P ι s h)(hd:nM p m e s x=some (t,s')):aI P (.entry x) ty er h (Post P ι s h t s'):=by
 unfold nM at hd;split at hd
 .rename_i xv hx;obtain⟨h1,rfl⟩:=fD hd;obtain⟨v,q1,q2⟩:=QU H (ai re hx) h1;refine aK rfl v (Post.pure H q1) fun W hW=> ?_
  simp[execOp,q2 W hW]
 .cases hd
theorem rC {o:Op}{K:Value->Heap->Prop}(hn:iX o=true)(H:∀W:World,W.heap=h->∃v W',(execOp (ev er) {dst:=none,op:=o,type:=ty,pos:= "",after:= #[],guard:=none}).run P W= .ok (.value v) W'/\Eng.Rest W W'/\K v W'.heap):aI P o ty er h K:=by
 unfold aI;refine And.intro hn fun W hW=> ?_
 obtain⟨v,W',h1,h2,h3⟩:=H W hW;rw[h1];exact⟨h3,h2⟩
theorem LQ (n:Nat)(hn:n<128):Utf8.encode (n:Int)=⟨⟨[UInt8.ofNat n]⟩⟩:=by
 have h1:Utf8.valid (n:Int)=true:=by simp[Utf8.valid];omega
 simp[Utf8.encode,h1,hn]
theorem Eg (ok:Ok P p)(H:Sim P ι s h){el:TypeId}{l:List UInt8}(hs:P.underlying a=some .string)(hd2:P.underlying b=some (.slice el))(hx:ev er x= .string ⟨⟨l⟩⟩)(hd:Ab p s el l=some (t,s')):aI P (.convert a b x) ty er h (Post P ι s h t s'):=by
 unfold Ab at hd;split at hd
 .rename_i hb;cases hd;obtain⟨ei,hei,hsz,hu8,te⟩:=jy ok hb;refine rC rfl fun W hW=>⟨.slice (some ⟨W.heap.size,0,none⟩) (ByteArray.mk ⟨l⟩).size (grownCap W (ByteArray.mk ⟨l⟩).size 0 el),W.drew.alloc (.cells (bytesRow ⟨⟨l⟩⟩ (grownCap W (ByteArray.mk ⟨l⟩).size 0 el)) el ((bytesRow ⟨⟨l⟩⟩ (grownCap W (ByteArray.mk ⟨l⟩).size 0 el)).size,(bytesRow ⟨⟨l⟩⟩ (grownCap W (ByteArray.mk ⟨l⟩).size 0 el)).size+1)),?_,⟨rfl,rfl,rfl⟩,?_⟩
  .have:=run_bytes_of_string (P:=P) W a b el ⟨⟨l⟩⟩ hs hd2 hu8;simp only[execOp,hx,Sem.run_bind,this,Result.andThen_ok];rfl
  .subst hW;have hnn:=H.pI (Nat.le_refl s.nx);obtain⟨cp,hcp⟩:∃cp,cp=grownCap W (ByteArray.mk ⟨l⟩).size 0 el:=⟨_,rfl⟩;rw[<-hcp];have hge:l.length<=cp:=by
    have:=grownCap_ge W (ByteArray.mk ⟨l⟩).size 0 el;rw[<-hcp]at this;exact this
   have hrow:(bytesRow ⟨⟨l⟩⟩ cp).toList.take l.length=l.map fun b=>Value.int .u8 (b.toNat:Int):=by
    simp[bytesRow]
   have:=jQ H (o:= .ro (kT l) el) (ob:= .cells (bytesRow ⟨⟨l⟩⟩ cp) el ((bytesRow ⟨⟨l⟩⟩ cp).size,(bytesRow ⟨⟨l⟩⟩ cp).size+1)) (x:=⟨W.heap.size,cp,#[],0,0⟩) rfl
    ⟨_,_,rfl,by simp[kT,bytesRow],by
     have hl:(kT l).length=l.length:=by simp[kT]
     rw[hl,hrow];exact BK l⟩
   refine⟨_,this.2,this.1,?_⟩;simp only[VR];exact⟨_,cp,Io.dm,rfl,hge⟩
 .cases hd
theorem Ev (ok:Ok P p)(H:Sim P ι s h){el:TypeId}{xt:T}(hs:P.underlying a=some (.slice el))(hd2:P.underlying b=some .string)(hx:VR ι xt (ev er x))(hd:Ah p s el xt=some (t,s')):aI P (.convert a b x) ty er h (Post P ι s h t s'):=by
 unfold Ah at hd;split at hd
 .rename_i cs n hb hcs hn;split at hd
  .rename_i l hl;cases hd;obtain⟨ei,hei,hsz,hu8,te⟩:=jy ok hb;obtain⟨os,o1,o2,aa,c,hva,o3,_⟩:=p8 ok H hei hx hcs hn;obtain⟨hos,hll⟩:=tL o1 hl;have hln:l.length=n:=by rw[hll,o2,hsz,Nat.mul_one]
   refine aK rfl (.string ⟨⟨l⟩⟩) (Post.pure H (by simp only[VR])) fun W hW=> ?_
   have h3:=o3 W hW;rw[hva,hsz]at h3;have hrun:(Conv.bytesToString (.slice aa n c)).run P W= .ok (.string ⟨⟨l⟩⟩) W:=by
    cases aa with
    |none=>
     have h4:(Builtin.firstCells 1 n (.slice none n c)).run P W= .ok #[] W:=rfl;rw[h4]at h3;have h5:os=[]:=by
      have:=(Result.ok.inj h3).1;have h6:=congrArg Array.toList this;simpa using h6.symm
     have h6:l=[]:=by
      rw[h5]at hos;simpa using hos.symm
     subst h6;rfl
    |some q=>
     have h4:(Builtin.firstCells 1 n (.slice (some q) n c)).run P W=(loadCells q (n*1)).run P W:=rfl;rw[h4,Nat.mul_one,hos]at h3;have h5:(loadCells q n).run P W= .ok ((l.map (fun b=>(b.toNat:Int))).map (Value.int .u8)).toArray W:=by rw[h3];simp
     rw[run_bytesToString W q n c _ h5,foldl_push_byteCells];have he0:ByteArray.empty.data= #[]:=rfl;rw[he0];simp
   simp only[execOp,hva,Sem.run_bind,run_convert_bytes_string W a b el aa n c hs hu8 hd2,hrun,Result.andThen_ok];rfl
  .cases hd
 .cases hd
theorem Qi (ok:Ok P p)(re:RE ι m e er)(H:Sim P ι s h)(hd:oG p m e s a b x=some (t,s')):aI P (.convert a b x) ty er h (Post P ι s h t s'):=by
 unfold oG at hd;split at hd
 .rename_i xv hx
  replace hx:=ai re hx
  unfold XC at hd;split at hd
  .rename_i si di hsi hdi;split at hd
   .rename_i q k q' n h1 h2;split at hd
    .rename_i v hv;cases hd;obtain⟨h3,rfl⟩:=fu hv;simp only[VR]at hx;refine aM ?_;rw[Ae,hx,(ok.tf hsi).int h1,(ok.tf hdi).int h2,Fp];exact⟨h3,Post.pure H (by simp only[VR])⟩
    .cases hd
   .rename_i q k q' m r lo hi h1 h2;split at hd
    .rename_i v w hv hw;cases hd;have h3:=(fu hv).1;have h4:=(fu hw).1;simp only[VR]at hx;obtain⟨z,hx,g1,g2,g3⟩:=hx;refine aM ?_;rw[Ae,hx,(ok.tf hsi).int h1,(ok.tf hdi).int h2,Fp];exact⟨Gb h3 h4 g2 g3,Post.pure H (by simp only[VR];exact⟨z,rfl,g1,g2,g3⟩)⟩
    .cases hd
   .rename_i a' h1 h2;cases hd;have hx':=hx;simp only[VR]at hx;refine aK rfl (ev er x) (Post.pure H hx') fun W _=> ?_
    simp[execOp,convert,run_underlying ((ok.tf hsi).string h1),run_underlying ((ok.tf hdi).string h2),hx]
   .rename_i el a' h1 h2;simp only[VR]at hx;exact Eg ok H ((ok.tf hsi).string h1) ((ok.tf hdi).slice h2) hx hd
   .rename_i el h1 h2;exact Ev ok H ((ok.tf hsi).slice h1) ((ok.tf hdi).string h2) hx hd
   .rename_i q q' n h1 h2;split at hd
    .rename_i hlt;cases hd;have hlt:=bX.1 hlt;simp only[VR,Int.ofNat_eq_natCast]at hx;have:=LQ n hlt;refine aK rfl (.string ⟨⟨[UInt8.ofNat n]⟩⟩) (Post.pure H (by simp only[VR])) fun W _=> ?_
     simp[execOp,convert,run_underlying ((ok.tf hsi).int h1),run_underlying ((ok.tf hdi).string h2),hx,Conv.intToString,this]
    .cases hd
   .cases hd
  .cases hd
 .cases hd
theorem U3 (ok:Ok P p)(re:RE ι m e er)(H:Sim P ι s h){o:Op}(hd:gQ p m o e s=some (t,s')):aI P o ty er h (Post P ι s h t s'):=by
 unfold gQ at hd;split at hd
 .exact YJ re H hd
 .exact Si re H hd
 .exact ZK re H hd
 .exact Uz ok H hd
 .exact zAx re H hd
 .exact V5 ok re H hd
 .exact GU ok re H hd
 .exact UC ok re H hd
 .exact Ve ok re H hd
 .exact NB re H hd
 .exact Vk ok re H hd
 .exact zBu re H hd
 .exact Qi ok re H hd
 .exact LU re H hd
 .exact Pk H hd
 .exact Ja ok re H hd
 .exact Vz ok re H hd
 .exact Jg ok re H hd
 .exact VH ok re H hd
 .exact Jt ok re H hd
 .exact Wm ok re H hd
 .exact JO ok re H hd
 .exact JU ok re H hd
 .exact WI ok re H hd
 .exact Yl re H hd
 .exact Qe re H hd
 .exact Ot re H hd
 .exact Kz ok re H hd
 .exact Gc re H hd
 .exact s_call ok re H hd
 .cases hd
end
end maps4
end Go.Run
namespace Go.Run
open Go Go.Eng
section code
variable {P:Program}{p:Pr}{ι:Io}{s s':S}{h:Heap}{m:Fm}{e e':E}{er:Env}{ty:TypeId}{t:T}{K:Value->Heap->Prop}{cf:fG}
noncomputable def JA (P:Program)(v:Value)(vs:List Value)(h:Heap)(K:Value->Heap->Prop):Prop:=
 ∀(er:Env) (f:Operand) (xs:Array Operand) (ats:Array TypeId) (ty:TypeId),ev er f=v->(xs.map (ev er)).toList=vs->aI P (.call ⟨.value f,xs,ats⟩) ty er h K
noncomputable def iN (P:Program)(cf:fG):Prop:=
 ∀f args s t s',cf f args s= .ok (t,s')->∀ι h v vs,VR ι f v->VL ι args vs->Sim P ι s h->JA P v vs h (Post P ι s h t s')
theorem yU {o:Op}{f:Operand}{xs:List Operand}(hc:MP o=some (f,xs)):∃as ats,o= .call ⟨.value f,as,ats⟩/\xs=as.toList:=by
 unfold MP at hc;split at hc
 .rename_i c;obtain⟨ce,as,ats⟩:=c;split at hc
  .rename_i g hg;cases hc;have hg:ce= .value f:=hg;subst hg;exact⟨as,ats,rfl,rfl⟩
  .cases hc
 .cases hc
theorem Cc (ok:Ok P p)(hcf:iN P cf){o:Op}{pos:String}(hd:oper p m cf o pos e s= .ok (t,s'))(re:RE ι m e er)(H:Sim P ι s h):aI P o ty er h (Post P ι s h t s'):=by
 unfold oper at hd;split at hd
 .rename_i f xs hc;obtain⟨as,ats,rfl,rfl⟩:=yU hc;unfold Mg at hd;split at hd
  .rename_i g vs hg hvs;split at hd
   .rename_i r hr;cases hd;exact hcf _ _ _ _ _ hr ι h _ _ (ai re hg) (vI re hvs) H er f as ats ty rfl (by simp)
   .cases hd
  .cases hd
 .unfold FO at hd;split at hd
  .rename_i r hr;cases hd;exact U3 ok re H hr
  .cases hd
noncomputable def uM (m:Fm)(e:E)(d:Option Tmp)(v:T):E:=match d with|none=>e|some t=>En.set (Pa.of m.dp t) v e
theorem RE.set (re:RE ι m e er){q:Nat}(hq:q<m.n){v:T}{vv:Value}(hv:VR ι v vv):RE ι m (En.set (Pa.of m.dp q) v e) (er.set q vv):=by
 refine⟨by simp[re.len],re.fit,fun i hi=> ?_⟩;have hfit:=re.fit;rw[En.bT (by omega) (by omega)];split
 .rename_i hiq;subst hiq;have:i<er.length:=by rw[re.len];exact hi
  simpa[List.getD,this]using hv
 .rename_i hiq;have:=re.get i hi;have h2:(er.set q vv).getD i undef=er.getD i undef:=by
   simp only[List.getD];rw[List.getElem?_set_ne (fun h=>hiq h.symm)]
  rw[h2];exact this
theorem kZ {d:Option Tmp}{v:T}{pos:String}{k:E->S->Res (E×S)}{r:E×S}(hp:qP m e d v pos s k= .ok r):(∀q,d=some q->q<m.n)/\k (uM m e d v) s= .ok r:=by
 unfold qP at hp;split at hp
 .exact⟨fun q hq=>(by cases hq),hp⟩
 .rename_i q;rw[aJ]at hp;split at hp
  .rename_i hq;rw[force_eq,En.aV]at hp;exact⟨fun q' hq'=>by cases hq';exact aH.1 hq,hp⟩
  .cases hp
theorem RE.put (re:RE ι m e er){d:Option Tmp}(hd:∀q,d=some q->q<m.n){v:T}{vv:Value}(hv:VR ι v vv):RE ι m (uM m e d v) (aU er d vv):=by
 cases d with
 |none=>exact re
 |some q=>exact re.set (hd q rfl) hv
theorem qR (re:RE ι m e er){all:List Oper}{o:Oper}{b:Bool}(hw:wants m all o.guard e=some b):Region.wanted o (yielded all.toArray er.toArray)=b:=by
 unfold wants at hw;unfold Region.wanted;split at hw
 .rename_i hg;cases hw;rw[hg]
 .rename_i j want hg;rw[hg];simp only[ve];split at hw
  .rename_i hs;cases hw;rw[hs];rfl
  .rename_i q hs;rw[hs];have hv:=iY re q;have key:∀v:Value,er.getD q undef=v->v≠undef->er[q]? =some v:=by
    intro v hv hne;simp only[List.getD]at hv;cases hq:er[q]? with
    |none=>rw[hq]at hv;exact absurd hv.symm hne
    |some x=>rw[hq]at hv;rw[<-hv];rfl
   split at hw
   .rename_i b' hb;cases hw;rw[hb]at hv;simp only[VR]at hv;have:=key _ hv (by simp[undef]);simp only[this];cases b'<;>cases want<;>rfl
   .rename_i hb;cases hw;rw[hb]at hv;simp only[VR]at hv;obtain⟨vs,hv,_⟩:=hv;have:∀x,er[q]? =some x->x= .tuple vs:=by
     intro x hx;simp only[List.getD,hx,Option.getD_some]at hv;exact hv
    cases hq:er[q]? with
    |none=>simp only[hq];rfl
    |some x=>rw[this x hq]at hq;simp only[hq];rfl
   .cases hw
theorem JH {all:List Oper}{o:Oper}{ops:List Oper}:xL p m cf all (o::ops) e s=SV p m cf all o (xL p m cf all ops) e s:=rfl
theorem qd (ok:Ok P p)(hcf:iN P cf){all:List Oper}{l:Option Nat}{ef:E}{sf:S}:∀(ops:List Oper) (e:E) (s:S),xL p m cf all ops e s= .ok (ef,sf)->∀{ι:Io} {er:Env} {h:Heap} {d:List Deferred} {w w0:World}
 {Q:Exit->Act->World->Prop},RE ι m e er->Sim P ι s h->w.heap=h->Eng.Rest w0 w->
 (∀a w',a.defers=d->Eng.Rest w0 w'->(∃ι',Ste ι s h ι' sf w'.heap/\Sim P ι' sf w'.heap/\RE ι' m ef a.tmps.toList)->Q .normal a w')->
 wpListIn (fen l) 0 P all.toArray Q ops ⟨er.toArray,d⟩ w
 |[],e,s,hr,ι,er,h,d,w,w0,Q,re,H,hw,hrest,hQ=>by
  have hr:(Res.ok (e,s):Res (E×S))= .ok (ef,sf):=hr;cases hr;subst hw;simp only[wpListIn];exact hQ _ _ rfl hrest ⟨ι,Ste.refl ..,H,by simpa using re⟩
 |o::rest,e,s,hr,ι,er,h,d,w,w0,Q,re,H,hw,hrest,hQ=>by
  rw[JH]at hr;unfold SV at hr;unfold wpListIn;split at hr
  .rename_i hwant;have hwant:=qR re hwant;simp only[hwant,if_true];split at hr
   .rename_i v s1 hop;obtain⟨hd,hk⟩:=kZ hr;refine iW ?_;rw[hw];refine bH ?_ (Cc ok hcf hop re H);rintro vv h' ⟨ι',q1,q2,q3⟩ w' hw' hr';refine qd ok hcf rest _ _ hk ((re.mono q1.sub).put hd q3) q2 hw' (hrest.trans hr') ?_;rintro a w'' a2 a6 ⟨ι'',a3,a4,a5⟩;exact hQ _ _ a2 a6 ⟨ι'',q1.trans H.fresh a3,a4,a5⟩
   .cases hr
  .rename_i hwant;have hwant:=qR re hwant;simp only[hwant,Bool.false_eq_true,if_false];obtain⟨hd,hk⟩:=kZ hr;refine⟨fun _ _=>trivial,?_⟩;rw[ay];exact qd ok hcf rest _ _ hk (re.put hd uI) H hw hrest hQ
  .cases hr
end code
end Go.Run
namespace Go.Run
open Go Go.Eng
section congr
variable {P:Program}{p:Pr}{ι:Io}{s s':S}{h:Heap}{m:Fm}{e e':E}{er:Env}{ty:TypeId}{t:T}{K:Value->Heap->Prop}{cf:fG}
section
variable {a b:T}{o:Op}{xs:List Operand}
theorem Ac {q:Tmp}(h:Operand.tmp q∈xs):q∈ma xs:=by
 induction xs with
 |nil=>cases h
 |cons x xs ih=>
  rcases List.mem_cons.1 h with hh|hh
  .subst hh;simp[ma]
  .cases x<;>simp[ma,ih hh]
noncomputable def Agree (m:Fm)(e e':E)(xs:List Operand):Prop:=∀q∈ma xs,bu m e q=bu m e' q
theorem Agree.opd (H:Agree m e e' xs){x:Operand}(hx:x∈xs):opd m e x=opd m e' x:=by
 cases x with
 |tmp q=>simp only[Run.opd,H q (Ac hx)]
 |_=>rfl
theorem Agree.sub {ys:List Operand}(H:Agree m e e' xs)(hs:∀y∈ys,y∈xs):Agree m e e' ys:=by
 intro q hq;have:Operand.tmp q∈ys:=by
  clear H hs;induction ys with
  |nil=>cases hq
  |cons y ys ih=>
   cases y<;>simp only[ma,List.mem_cons]at hq<;>first
    |(rcases hq with rfl|hq
      .simp
      .simp[ih hq])
    |simp[ih hq]
 exact H q (Ac (hs _ this))
theorem Agree.qE (H:Agree m e e' xs):qE m e xs=qE m e' xs:=by
 induction xs with
 |nil=>rfl
 |cons x xs ih=>
  simp only[Run.qE,H.opd (by simp:x∈x::xs),ih (H.sub fun y hy=>by simp[hy])]
theorem Agree.parts {xs:List (Nat×Operand)}(H:Agree m e e' (xs.map (·.2))):oZ m e xs=oZ m e' xs:=by
 induction xs with
 |nil=>rfl
 |cons x xs ih=>
  obtain⟨i,x⟩:=x;simp only[oZ,H.opd (by simp:x∈((i,x)::xs).map (·.2)),ih (H.sub fun y hy=>by simp at hy ⊢;exact .inr hy)]
theorem Agree.wL (H:Agree m e e' xs){x:Option Operand}(hx:∀y,x=some y->y∈xs):wL m e x=wL m e' x:=by
 cases x with
 |none=>rfl
 |some x=>simp only[Run.wL,H.opd (hx x rfl)]
theorem oC (H:Agree m e e' (opsOf o)):gQ p m o e s=gQ p m o e' s:=by
 have g:∀x∈opsOf o,opd m e x=opd m e' x:=fun x hx=>H.opd hx
 cases o<;>first
  |rfl
  |(simp only[opsOf,List.mem_cons,List.not_mem_nil,or_false,forall_eq_or_imp,forall_eq]at g
    simp only[gQ,GX,yH,AJ,tJ,rQ,uX,mQ,uw,oG,gH,kK,vw,jw,vG,kW,kH,vB,zh,oQ,nM,mR,jf,g];done)
  |skip
 case build u ps=>simp only[gQ,vX,Agree.parts (xs:=ps.toList) H]
 case buildSlice u n ps=>simp only[gQ,fO,Agree.parts (xs:=ps.toList) H]
 case unOp u t x=>
  simp only[opsOf,List.mem_cons,List.not_mem_nil,or_false,forall_eq]at g;simp only[gQ,Na,GZ,Ep,g]
 case makeFunc fn a b=>
  simp only[gQ,mP,Agree.qE (xs:=a.toList) (H.sub fun y hy=>by simp[opsOf,hy]),Agree.qE (xs:=b.toList) (H.sub fun y hy=>by simp[opsOf,hy])]
 case slice u x lo hi mx=>
  simp only[gQ,ul,g x (by simp[opsOf]),H.wL (x:=lo) (fun y hy=>by simp[opsOf,hy]),H.wL (x:=hi) (fun y hy=>by simp[opsOf,hy]),H.wL (x:=mx) (fun y hy=>by simp[opsOf,hy])]
 case call c=>
  simp only[gQ,zU,Agree.qE (xs:=c.args.toList) (H.sub fun y hy=>by simp only[opsOf,List.mem_append];exact .inr hy)]
theorem NS {pos:String}(H:Agree m e e' (opsOf o)):oper p m cf o pos e s=oper p m cf o pos e' s:=by
 unfold oper;split
 .rename_i f xs hc;obtain⟨as,ats,rfl,rfl⟩:=yU hc;unfold Mg;rw[H.opd (by simp[opsOf]:f∈_),Agree.qE (H.sub fun y hy=>by simp only[opsOf,List.mem_append];exact .inr hy)]
 .unfold FO;rw[oC H]
theorem JV {all:List Oper}{o:Oper}(H:∀q∈looks all o,bu m e q=bu m e' q):wants m all o.guard e=wants m all o.guard e':=by
 unfold wants;cases hg:o.guard with
 |none=>rfl
 |some g=>
  obtain⟨j,want⟩:=g;simp only;cases hs:fQ all j with
  |none=>rfl
  |some q=>
   simp only;rw[H q (by unfold looks;rw[hg];simp[hs])]
theorem Gp {all:List Oper}{o:Oper}(H:∀q∈looks all o,bu m e q=bu m e' q):Agree m e e' (opsOf o.op):=by
 intro q hq;refine H q ?_;unfold looks;split
 .exact hq
 .split
  .exact List.mem_cons_of_mem _ hq
  .exact hq
theorem pF (h:Qm a b=true):a=b:=by
 unfold Qm at h;split at h<;>try simp only[Bool.and_eq_true,Bool.false_eq_true]at h
 .rename_i k x j y;obtain rfl:=jR h.1;have h2:=h.2;rw[mU,decide_eq_true_iff]at h2;rw[h2]
 .rfl
 .rfl
 .rw[kI,decide_eq_true_iff]at h;rw[h]
 .rfl
 .rw[Nat.eq_of_beq_eq_true h.1,Nat.eq_of_beq_eq_true h.2]
 .rfl
 .obtain⟨⟨⟨h1,h2⟩,h3⟩,h4⟩:=h;rw[Nat.eq_of_beq_eq_true h1,Nat.eq_of_beq_eq_true h2,Nat.eq_of_beq_eq_true h3,Nat.eq_of_beq_eq_true h4]
 .rw[Nat.eq_of_beq_eq_true h.1,Nat.eq_of_beq_eq_true h.2]
 .obtain⟨⟨h1,h2⟩,h3⟩:=h;rw[Nat.eq_of_beq_eq_true h1,Nat.eq_of_beq_eq_true h2,Nat.eq_of_beq_eq_true h3]
 .rfl
 .rw[Nat.eq_of_beq_eq_true h]
 .rfl
 all_goals rfl
theorem lS:∀{a b:List T},Ff a b=true->a=b
 |[],[],_=>rfl
 |a::r,b::q,h=>by
  simp only[Ff,Bool.and_eq_true]at h;rw[pF h.1,lS h.2]
 |[],_::_,h=>by simp[Ff]at h
 |_::_,[],h=>by simp[Ff]at h
theorem Ko (h:ZJ a b=true):a=b:=by
 unfold ZJ at h;split at h
 .rw[lS h]
 .exact pF h
theorem Bo:∀{a b:List T},QV a b=true->a=b
 |[],[],_=>rfl
 |a::r,b::q,h=>by
  simp only[QV,Bool.and_eq_true]at h;rw[Ko h.1,Bo h.2]
 |[],_::_,h=>by simp[QV]at h
 |_::_,[],h=>by simp[QV]at h
theorem EZ (h:eqT a b=true):a=b:=by
 unfold eqT at h;split at h
 .rw[lS h]
 .rw[Bo h]
 .exact pF h
theorem jV (h:eqF a b=true):a=b:=by
 unfold eqF at h;split at h
 .rename_i f a b g c d;simp only[Bool.and_eq_true]at h;have hf:f=g:=by
   have h1:=h.1.1;unfold Vn at h1;split at h1
   .rw[Nat.eq_of_beq_eq_true h1]
   .rw[Nat.eq_of_beq_eq_true h1]
   .cases h1
  rw[hf,lS h.1.2,lS h.2]
 .rfl
 .exact EZ h
theorem Sim.nil (H:Sim P ι s h)(hn:s.nx<=1000000):Sim P ι Q0 h:=by
 refine⟨fun b x hx=> ?_,fun b c x y hb=> ?_,fun b o hb=> ?_⟩
 .have:=H.fresh b x hx;exact⟨show b<1000000 by omega,this.2⟩
 .exact absurd (by simp[Q0,S.at,En.bU,aJ]) hb
 .simp[Q0,S.at,En.bU,aJ]at hb
theorem Sim.grown (H:Sim P ι s h){h':Heap}(hs:h.size<=h'.size)(ho:∀r,r<h.size->h'[r]? =h[r]?):Sim P ι s h'/\Ste ι s h ι s h':=by
 refine⟨⟨fun b x hx=> ?_,H.inj,fun b o hb=> ?_⟩,⟨fun _ _ h=>h,Nat.le_refl _,Nat.le_refl _,hs,fun _ _ h=>h,fun _ _ h=> .inl h,fun _ _ _ h=>h,fun r hr _=>ho r hr⟩⟩
 .have:=H.fresh b x hx;exact⟨this.1,by omega⟩
 .obtain⟨x,ob,h1,h2,h3⟩:=H.obj b o hb;exact⟨x,ob,h1,by rw[ho _ (H.fresh b x h1).2];exact h2,h3⟩
theorem Kc (ok:Ok P p)(re:RE ι m e er)(H:Sim P ι s h)(hn:s.nx<=1000000){s1:S}(hd:gQ p m o e Q0=some (t,s1))(h1:s1.nx=1000000)(h2:1000000<=s1.low):aI P o ty er h (Post P ι s h t s):=by
 refine bH ?_ (U3 ok re (H.nil hn) hd);rintro v h' ⟨ι',q1,q2,q3⟩;have hlt:∀b x,ι b=some x->b<1000000:=fun b x hx=>by have:=(H.fresh b x hx).1;omega
 have hold:∀r,r<h.size->h'[r]? =h[r]? :=fun r hr=>q1.old r hr fun b x hx _=> .inl (by simp[Q0,S.at,En.bU,aJ])
 obtain⟨g1,g2⟩:=H.grown q1.size hold;have hι:∀b,ι' b=ι b:=by
  intro b;cases hb:ι' b with
  |none=>
   cases hb':ι b with
   |none=>rfl
   |some x=>have:=q1.sub b x hb';rw[hb]at this;cases this
  |some x=>
   rcases q1.grow b x hb with h3|⟨h3,_⟩
   .exact h3.symm
   .have:=(q2.fresh b x hb).1;have h4:(1000000:Nat)<=b:=h3;omega
 refine⟨ι,g2,g1,?_⟩;exact VR.mono (fun b x hb=>by rw[<-hι b];exact hb) _ q3
theorem Mf (ok:Ok P p)(re:RE ι m e er)(H:Sim P ι s h)(hk:kindOf o=1)(hd:gQ p m o e s=some (t,s')):aI P o ty er h (Post P ι s h t s):=by
 cases o<;>simp only[kindOf]at hk<;>try (cases hk;done)
 case load u x=>
  have hd:rQ p m e s u x=some (t,s'):=hd;have:s'=s:=by
   unfold rQ at hd;split at hd
   .exact(fD hd).2
   .cases hd
  subst this;exact UC ok re H hd
 case lookup u x k b=>
  have hd:kW p m e s u x k b=some (t,s'):=hd;have:s'=s:=by
   unfold kW at hd;split at hd
   .exact(fD hd).2
   .cases hd
  subst this;exact JO ok re H hd
 case entry x=>
  have hd:nM p m e s x=some (t,s'):=hd;have:s'=s:=by
   unfold nM at hd;split at hd
   .exact(fD hd).2
   .cases hd
  subst this;exact Ot re H hd
 case call c=>
  split at hk<;>cases hk
end
end congr
end Go.Run
namespace Go.Run
open Go Go.Eng
section allocs
variable {P:Program}{p:Pr}{ι:Io}{s s':S}{h:Heap}{m:Fm}{e e':E}{er:Env}{ty:TypeId}{t:T}{K:Value->Heap->Prop}
section
variable {b:Nat}{u:TypeId}
noncomputable def PN (P:Program)(ι:Io)(b:Nat)(h:Heap)(t:T)(ob:VO):Value->Heap->Prop:=fun v h'=>
 ∃obr,h'=h.push obr/\OR P (ι.put b ⟨h.size,0,#[],0,0⟩) ⟨h.size,0,#[],0,0⟩ ob obr/\VR (ι.put b ⟨h.size,0,#[],0,0⟩) t v
theorem KL (hn:ι b=none){cs:List T}{us:List Value}{ct:TypeId}(hv:VL ι cs us):
 PN P ι b h (.ptr b 0) (.row cs ct false) (.pointer (some ⟨h.size,0,none⟩)) (h.push (.cells us.toArray ct)):=
 ⟨_,rfl,⟨_,rfl,by simp[hv.length],by have:=VL.mono (Io.gU (x:=⟨h.size,0,#[],0,0⟩) hn) cs hv;rw[<-hv.length];simpa using this,fun _=>by simp[hv.length],fun h=>(by cases h)⟩,by simp only[VR];exact⟨_,Io.dm,rfl⟩⟩
theorem Aa (hn:ι b=none){cs:List T}{us:List Value}{ct:TypeId}{n c:Nat}(hv:VL ι cs us):
 PN P ι b h (.slice b 0 n c) (.row cs ct false) (.slice (some ⟨h.size,0,none⟩) n c) (h.push (.cells us.toArray ct)):=
 ⟨_,rfl,⟨_,rfl,by simp[hv.length],by have:=VL.mono (Io.gU (x:=⟨h.size,0,#[],0,0⟩) hn) cs hv;rw[<-hv.length];simpa using this,fun _=>by simp[hv.length],fun h=>(by cases h)⟩,by simp only[VR];exact⟨_,Io.dm,rfl⟩⟩
theorem zA6 (hn:ι s.nx=none)(re:RE ι m e er){x:Operand}(hd:tJ p m e s u x=some (t,s')):∃ob,s'=fM s ob/\aI P (.box u x) ty er h (PN P ι s.nx h t ob):=by
 unfold tJ at hd;split at hd
 .rename_i v hv;split at hd
  .rename_i ha;cases hd;refine⟨_,rfl,aM (by rw[FY];have:=KL (P:=P) (h:=h) (ct:=u) hn (dw (ai re hv) ha);simpa using this)⟩
  .cases hd
 .cases hd
theorem Wp (ok:Ok P p)(hn:ι s.nx=none)(hd:nJ p m e s u=some (t,s')):∃ob,s'=fM s ob/\aI P (.alloc u) ty er h (PN P ι s.nx h t ob):=by
 unfold nJ at hd;split at hd
 .rename_i ti hti;split at hd
  .rename_i ha;cases hd;have tf:=ok.tf hti;obtain⟨z,h1,h2⟩:=tf.zero;refine⟨_,rfl,aM (by rw[wZ,h1,BR];have:=KL (P:=P) (h:=h) (ct:=u) hn (dw (h2 ι) ha);simpa using this)⟩
  .cases hd
 .cases hd
theorem Qk (hn:ι s.nx=none){r:Option Operand}(hd:jP p m e s r=some (t,s')):∃ob,s'=fM s ob/\aI P (.makeMap u r) ty er h (PN P ι s.nx h t ob):=by
 unfold jP at hd;split at hd
 .cases hd;refine⟨_,rfl,aM ?_⟩;rw[p9];exact⟨_,rfl,⟨#[],rfl,rfl,by simp[jZ]⟩,by simp only[VR];exact⟨_,Io.dm,rfl⟩⟩
 .cases hd
theorem FD (ok:Ok P p)(hn:ι s.nx=none)(re:RE ι m e er){n:Nat}{xs:Array (Nat×Operand)}(hd:fO p m e s u n xs=some (t,s')):∃ob,s'=fM s ob/\aI P (.buildSlice u n xs) ty er h (PN P ι s.nx h t ob):=by
 unfold fO at hd;split at hd
 .rename_i ps hps;have hp:=qj re hps;unfold Eu at hd;split at hd
  .rename_i ti hti;have tf:=ok.tf hti;split at hd
   .rename_i el hdd;split at hd
    .rename_i ei hei;have te:=ok.tf hei;split at hd
     .rename_i hc;simp only[Bool.and_eq_true]at hc;obtain⟨⟨⟨c0,c1⟩,c2⟩,c3⟩:=hc;have c1:=Nat.eq_of_beq_eq_true c1;have c2:=aH.1 c2;have c3:=aH.1 c3;split at hd
      .rename_i cs hcs;cases hd;obtain⟨z,z1,z2⟩:=te.zero;have k1:=dw (z2 ι) c0;obtain⟨ws,q1,q2⟩:=uU hp (uO k1 n) hcs;refine⟨_,rfl,aM ?_⟩;rw[lH,tf.slice hdd];have:(xs.map fun(i,x)=>(i,ev er x)).toList=xs.toList.map fun(i,x)=>(i,ev er x):=by simp
       rw[this];simp only[Ey,z1,te.size];refine⟨by rw[<-c1,<-k1.length];simp,by omega,c3,?_⟩;rw[fJ];exact⟨ws,q1,Aa hn q2⟩
      .cases hd
     .cases hd
    .cases hd
   .cases hd
  .cases hd
 .cases hd
theorem Gw (ok:Ok P p)(hn:ι s.nx=none)(re:RE ι m e er){l c:Operand}(hd:gH p m e s u l c=some (t,s')):∃ob,s'=fM s ob/\aI P (.makeSlice u l c) ty er h (PN P ι s.nx h t ob):=by
 unfold gH at hd;split at hd
 .rename_i q n q' k ti hl hc hti;have tf:=ok.tf hti
  replace hl:=ai re hl
  replace hc:=ai re hc
  simp only[VR]at hl hc;split at hd
  .rename_i el n k hdd;simp only[Int.ofNat_eq_natCast]at hl hc;unfold BD at hd;split at hd
   .rename_i ei hei;have te:=ok.tf hei;split at hd
    .rename_i hcc;cases hd;simp only[Bool.and_eq_true]at hcc;obtain⟨⟨⟨⟨⟨c0,c1⟩,c2⟩,c3⟩,c4⟩,c5⟩:=hcc;have c1:=Nat.eq_of_beq_eq_true c1;have c2:=aH.1 c2;have c3:=aH.1 c3;have c4:=aH.1 c4;have c5:=aH.1 c5;obtain⟨z,z1,z2⟩:=te.zero;have k1:=dw (z2 ι) c0;have hk:k<=1000000:=Nat.le_trans (Nat.le_mul_of_pos_right k c2) c4;refine⟨_,rfl,aM ?_⟩;rw[nA,hl,hc,tf.slice hdd];simp only[FV,z1,te.size,Gu te];refine⟨by rw[<-c1,<-k1.length];simp,by omega,by omega,by omega,?_,by omega,?_⟩
     .have:(k:Int)*(ei.bytes:Int)=((k*ei.bytes:Nat):Int):=by simp
      rw[this];omega
     .exact Aa hn (uO k1 k)
    .cases hd
   .cases hd
  .cases hd
 .cases hd
theorem BJ (ok:Ok P p)(hn:ι b=none)(re:RE ι m e er){o:Oper}(hk:kindOf o.op=3){ob:VO}(hd:nH p m o e b=some (t,ob)):aI P o.op o.type er h (PN P ι b h t ob)/\b<=16383:=by
 unfold nH at hd;split at hd
 .rename_i t1 s1 hst;split at hd
  .rename_i ob1 hat;cases hd;have key:∀ob',s1=fM (sAt b) ob'->ob'=ob/\b<=16383:=by
    intro ob' hs;rw[hs,zX,bO]at hat;split at hat
    .rename_i hh;cases hat;exact⟨rfl,hh.1⟩
    .simp[sAt,S.at,En.bU,aJ]at hat
   generalize hop:o.op=op at *;cases op<;>simp only[kindOf]at hk<;>try (cases hk;done)
   case alloc u=>
    obtain⟨ob',h1,h2⟩:=Wp (s:=sAt b) (er:=er) (h:=h) (ty:=o.type) ok hn (show nJ p m e (sAt b) u=some (t,s1)from hst);obtain⟨rfl,h3⟩:=key ob' h1;exact⟨h2,h3⟩
   case box u x=>
    obtain⟨ob',h1,h2⟩:=zA6 (s:=sAt b) (h:=h) (P:=P) (ty:=o.type) hn re (show tJ p m e (sAt b) u x=some (t,s1)from hst);obtain⟨rfl,h3⟩:=key ob' h1;exact⟨h2,h3⟩
   case buildSlice u n xs=>
    obtain⟨ob',h1,h2⟩:=FD (s:=sAt b) (h:=h) (ty:=o.type) ok hn re (show fO p m e (sAt b) u n xs=some (t,s1)from hst);obtain⟨rfl,h3⟩:=key ob' h1;exact⟨h2,h3⟩
   case makeSlice u x y=>
    obtain⟨ob',h1,h2⟩:=Gw (s:=sAt b) (h:=h) (ty:=o.type) ok hn re (show gH p m e (sAt b) u x y=some (t,s1)from hst);obtain⟨rfl,h3⟩:=key ob' h1;exact⟨h2,h3⟩
   case makeMap u r=>
    obtain⟨ob',h1,h2⟩:=Qk (s:=sAt b) (er:=er) (h:=h) (P:=P) (ty:=o.type) hn (show jP p m e (sAt b) r=some (t,s1)from hst);obtain⟨rfl,h3⟩:=key ob' h1;exact⟨h2,h3⟩
   case call c=>split at hk<;>cases hk
  .cases hd
 .cases hd
theorem Sim.add (H:Sim P ι s h)(hn:ι b=none)(hb:b<s.nx)(h0:s.at b=none){obr:Obj}:Sim P (ι.put b ⟨h.size,0,#[],0,0⟩) s (h.push obr):=by
 have hsub:=Io.gU (x:=⟨h.size,0,#[],0,0⟩) hn;refine⟨fun c x hx=> ?_,fun c d x y hc hd hx hy hxy=> ?_,fun c o hc=> ?_⟩
 .unfold Io.put at hx;split at hx
  .rename_i hcb;cases hx;subst hcb;exact⟨hb,by simp⟩
  .have:=H.fresh c x hx;exact⟨this.1,by simp;omega⟩
 .unfold Io.put at hx hy;split at hx
  .rename_i hcb;subst hcb;exact absurd h0 hc
  .split at hy
   .rename_i hdb;subst hdb;exact absurd h0 hd
   .exact H.inj c d x y hc hd hx hy hxy
 .obtain⟨x,ob,h1,h2,h3⟩:=H.obj c o hc;refine⟨x,ob,hsub _ _ h1,?_,h3.mono hsub⟩;rw[Array.getElem?_push,if_neg (by have:=(H.fresh c x h1).2;omega)];exact h2
theorem Sim.lay (H:Sim P ι s h){x:Inf}{ob:VO}{obr:Obj}(hx:ι b=some x)(hg:h[x.r]? =some obr)(ho:OR P ι x ob obr)(hu:∀c y,ι c=some y->y.r=x.r->c=b):Sim P ι (bG s b (some ob) s.nx s.low) h:=by
 refine⟨fun c y hy=>by rw[fq];exact H.fresh c y hy,fun c d y z hc hd hy hz hyz=> ?_,fun c o hc=> ?_⟩
 .rw[bO]at hc hd;split at hc
  .rename_i hh;obtain⟨_,rfl⟩:=hh;rw[hx]at hy;cases hy;exact(hu d z hz hyz.symm).symm
  .split at hd
   .rename_i hh;obtain⟨_,rfl⟩:=hh;rw[hx]at hz;cases hz;exact hu c y hy hyz
   .exact H.inj c d y z hc hd hy hz hyz
 .rw[bO]at hc;split at hc
  .rename_i hh;cases hc;obtain⟨_,rfl⟩:=hh;exact⟨x,obr,hx,hg,ho⟩
  .exact H.obj c o hc
end
end allocs
end Go.Run
