/- Lemmas. No condition. -/
import Derived.Test.YtejmkibjpaoahaaGreatDoorRunS
import Derived.Maps.RangeRun
import Derived.Laws.IdiomStrings
import Derived.Lib.UnsafeStr
import Derived.Lib.MakeNoZero
open Nat renaming eq_of_beq_eq_true→aC,beq→aX,le_refl→bi,ble→bn,zero_add→ek,le_trans→fw,add_zero→ko,mul_le_mul_right→kz,add_mul→lc,beq_refl→lG,min_le_left→qm,le_mul_of_pos_right→sM,min_eq_left→tT,min_le_right→wV,mul_one→zn
open Bool renaming and_eq_true→aF,false_eq_true→eB
open Go.Result renaming andThen_ok→aN
open Go.Sem renaming run_bind→aY,run_pure→bE
open List renaming replicate→aZ,all_eq_true→bJ,not_mem_nil→bK,mem_cons→bP,mem_of_getElem?→bQ,length_append→cz,toList_toArray→dG,getElem?_of_mem→dL,getElem?_take→eD,length_take→kD,take_take→lX,getD→rT,mem_append→sW,size_toArray→uE,mem_of_find?_eq_some→ww,find?_some→FL
open Array renaming toList_inj→bz,length_toList→dC,getElem?_modify→lY,toList_extract→rM,toList_push→MF
open Int renaming ofNat_eq_natCast→bL
open Go.MapKept renaming run_getObj_map→bR,run_setObj_map→eF
open Go.Builtin renaming firstCells→bS,zeroCells→dn,append_→gY,clear_→rf,delete_→sS,copy_→zS,nextslicecap→IA
open ByteArray renaming mk→xe,data_extract→xM
open Go.Instr renaming mapUpdate→xI,mapEntry→IK
set_option linter.unusedVariables false
set_option linter.unusedSimpArgs false
namespace Go.Run
open Go Go.Eng
section app
variable {P:Program}{p:Pr}{ι:Io}{s s':S}{h:Heap}{m:Fm}{e:E}{er:Env}{ty:TypeId}{t:T}{K:Value->Heap->Prop}
section
variable {ats:Array TypeId}{i:TypeInfo}{news:List Value}{x:Value}
theorem oM {o:Op}(hd:iX o=true)(h':Heap)(hk:K undef h')
 (H:∀w:World,w.heap=h->∃w',(execOp (ev er) {dst:=none,op:=o,type:=ty,pos:= "",after:= #[],guard:=none}).run P w= .ok .skip w'/\w'.heap=h'/\Eng.Rest w w'):aI P o ty er h K:=by
 unfold aI;refine And.intro hd fun w j=> ?_
 obtain⟨w',c,d,g⟩:=H w j;rw[c];exact⟨d▸hk,g⟩
theorem gG {b:Builtin}{vs:List Value}{f:Array TypeId->TypeId->Array Value->Sem Value}(hb:∀ty cs args,builtin b ats ty cs args=(do let v<-f ats ty args;pure (.value v)))(H:∀(ty:TypeId) (w:World),w.heap=h->∃v w',(f ats ty vs.toArray).run P w= .ok v w'/\Eng.Rest w w'/\Post P ι s h t s' v w'.heap):BI P b ats ι s h t s' vs:=by
 intro er xs ty r;unfold aI;refine And.intro rfl fun w q=> ?_
 have c:xs.map (ev er)=vs.toArray:=by apply bz.1;simpa using r
 obtain⟨v,w',d,g,j⟩:=H ty w q;have:(execOp (ev er) {dst:=none,op:= .call ⟨.builtin b,xs,ats⟩,type:=ty,pos:= "",after:= #[],guard:=none}).run P w= .ok (.value v) w':=by
  simp only[execOp,resolve,invoke,aY,bE,aN,c,hb,d]
 rw[this];exact⟨j,g⟩
structure Src (P:Program)(ats:Array TypeId)(h:Heap)(size m:Nat)(x:Value)(news:List Value):Prop where
 ty:∃xt d,ats[1]? =some xt/\P.underlying xt=some d/\((∃e,d= .slice e)\/d= .string)
 len:∀w:World,w.heap=h->(Builtin.lenOf x).run P w= .ok m w
 cells:∀w:World,w.heap=h->(bS size m x).run P w= .ok news.toArray w
 part:news.length=m*size->∀n,n<=m->∀w:World,w.heap=h->(bS size n x).run P w= .ok (news.take (n*size)).toArray w
theorem oq {t e:TypeId}(h0:ats[0]? =some t)(ht:P.underlying t=some (.slice e))(hi:P.info? e=some i){m g off sLen sCap:Nat}{cur:Array Value}{ct:TypeId}(w:World)(hs:Src P ats w.heap i.size m x news)(hg:w.heap[g]? =some (.cells cur ct (0,0)))(h1:∀u∈news,u.oneCell'=true)(hroom:sLen+m<=sCap)(hfit:off+sLen*i.size+news.length<=cur.size):
 (gY ats ty #[.slice (some ⟨g,off,none⟩) sLen sCap,x]).run P w= .ok (.slice (some ⟨g,off,none⟩) (sLen+m) sCap) (w.setRow g (splice cur.toList (off+sLen*i.size) news).toArray):=by
 have c:=run_storeCells_at P g (off+sLen*i.size) ct news 0 cur w hg (by simpa using hfit) h1;simp only[ko]at c;have j:=hs.len w rfl;have q:=hs.cells w rfl;obtain⟨A,d,q1,q2,q3⟩:=hs.ty;have r:(⟨g,off,none⟩:Addr).add (sLen*i.size)=⟨g,off+sLen*i.size,none⟩:=by unfold Addr.add;split<;>simp_all
 rcases q3 with⟨el,rfl⟩|rfl<;>
  simp[gY,h0,q1,run_underlying ht,run_underlying q2,sizeOf,typeInfo,hi,j,hroom,q,r,c,splice]
theorem uy {t e:TypeId}{z:Value}(h0:ats[0]? =some t)(ht:P.underlying t=some (.slice e))(hi:P.info? e=some i)(hz:i.zero=some z){m sLen sCap:Nat}{olds:List Value}{b:Option Addr}(w:World)(hs:Src P ats w.heap i.size m x news)(ho:∀w':World,w'.heap=w.heap->(bS i.size sLen (.slice b sLen sCap)).run P w'= .ok olds.toArray w')(hgr:sCap<sLen+m)(hby:(sLen+m)*i.bytes<=1000000)(hbn:sLen+m<=1000000):
 (gY ats ty #[.slice b sLen sCap,x]).run P w=
  .ok (.slice (some ⟨w.heap.size,0,none⟩) (sLen+m) (grownCap w (sLen+m) sCap e)) (w.drew.alloc (.cells (olds++news++(dn z.cells (grownCap w (sLen+m) sCap e-(sLen+m))).toList).toArray e)):=by
 have A:¬(sLen+m<=sCap):=by omega
 have g:¬(9223372036854775807<((sLen:Int)+(m:Int))):=by omega
 have C:=growslice_fits (bytes:=i.bytes) hgr (by omega);have c:¬(281474976710656<IA (sLen+m) sCap*i.bytes):=by omega
 have j:=hs.len w rfl;have q:=hs.cells w.drew rfl;have r:=ho w.drew rfl;obtain⟨G,d,q1,q2,q3⟩:=hs.ty;have B:olds++(news++(dn z.cells (grownCap w (sLen+m) sCap e-(sLen+m))).toList)=olds++news++(dn z.cells (grownCap w (sLen+m) sCap e-(sLen+m))).toList:=by simp
 rcases q3 with⟨el,rfl⟩|rfl
 .simp[gY,h0,q1,run_underlying ht,run_underlying q2,sizeOf,typeInfo,zeroValue,hi,hz,j,A,g,c,Question.forced,q,r,newRow]
  try refine⟨rfl,?_⟩
  congr 2;apply bz.1;simp[grownCap]
 .simp[gY,h0,q1,run_underlying ht,run_underlying q2,sizeOf,typeInfo,zeroValue,hi,hz,j,A,g,c,Question.forced,q,r,newRow]
  try refine⟨rfl,?_⟩
  congr 2;apply bz.1;simp[grownCap]
theorem zZ {t e:TypeId}(h0:ats[0]? =some t)(ht:P.underlying t=some (.slice e))(hi:P.info? e=some i)(w:World)(hs:Src P ats w.heap i.size 0 x news):(gY ats ty #[.slice none 0 0,x]).run P w= .ok (.slice none 0 0) w:=by
 have c:=hs.len w rfl;have g:=hs.cells w rfl;obtain⟨j,d,q1,q2,q3⟩:=hs.ty;rcases q3 with⟨el,rfl⟩|rfl<;>
  simp[gY,h0,q1,run_underlying ht,run_underlying q2,sizeOf,typeInfo,hi,c,g]
end
end app
end Go.Run
namespace Go.Run
open Go Go.Eng
section app2
variable {P:Program}{p:Pr}{ι:Io}{s s':S}{h:Heap}{m:Fm}{e:E}{er:Env}{ty:TypeId}{t:T}{K:Value->Heap->Prop}
section
variable {el:TypeId}{v:Value}
theorem vF {w:World}{r o j:Nat}{cur:Array Value}{ct:TypeId}{fr:Nat×Nat}(hg:w.heap[r]? =some (.cells cur ct fr))(hv:cur[o+j]? =some v):w.cell? ((⟨r,o,none⟩:Addr).add j)=some v:=by
 have c:(⟨r,o,none⟩:Addr).add j=⟨r,o+j,none⟩:=by unfold Addr.add;split<;>simp_all
 rw[c,cell_of_row w r (o+j) cur ct fr hg];exact hv
theorem p8 (ok:Ok P p)(H:Sim P ι s h){ei:TI}(hei:p.ty el=some ei){x:T}(hv:VR ι x v){cs:List T}{n:Nat}(hc:gF p s el x=some cs)(hn:sliceLen x=some n):
 ∃us,VL ι cs us/\cs.length=n*ei.size/\∃a c,v= .slice a n c/\(∀w:World,w.heap=h->(bS ei.size n v).run P w= .ok us.toArray w)/\∀k,k<=n->∀w:World,w.heap=h->(bS ei.size k v).run P w= .ok (us.take (k*ei.size)).toArray w:=by
 unfold gF at hc;split at hc
 .cases hc;simp only[sliceLen,Option.some.injEq]at hn;subst hn;simp only[VR]at hv;subst hv;exact⟨[],rfl,by simp,none,0,rfl,fun w _=>by simp[bS],fun k _ w _=>by simp[bS]⟩
 .cases hc;simp only[sliceLen,Option.some.injEq]at hn;subst hn;simp only[VR]at hv;obtain⟨a,c,rfl⟩:=hv;refine⟨[],rfl,by simp,_,_,rfl,fun w _=> ?_,fun k g w _=> ?_⟩
  .exact run_firstCells_some w ei.size 0 a 0 c [] (by simp) (by simp)
  .obtain rfl:k=0:=by omega
   have:=run_firstCells_some (P:=P) w ei.size 0 a 0 c [] (by simp) (by simp);simpa using this
 .split at hc
  .rename_i O b o len N G;rw[hei]at N;cases N;obtain⟨y,c,U,rfl,_⟩:=uh hv G;have q:len=n:=by
    unfold fP at G;split at G<;>simp only[sliceLen,Option.some.injEq]at hn<;>cases G<;>exact hn
   subst q;split at hc
   .rename_i row A;split at hc
    .rename_i I;cases hc;have I:=aH.1 I;obtain⟨V,W,d,Q,R,J⟩:=row_of H A U;have C:∀k,k<=len->∀w:World,w.heap=h->(bS ei.size k (.slice (some ⟨y.r,o,none⟩) len c)).run P w= .ok ((d.toList.drop o).take (k*ei.size)).toArray w:=by
      intro k g w L;subst L;have:k*ei.size<=len*ei.size:=kz _ g;refine run_firstCells_some w ei.size k ⟨y.r,o,none⟩ len c _ (by simp;omega) fun j u B=> ?_
      rw[eD]at B;split at B
      .rw[List.getElem?_drop]at B;exact vF Q (by simpa using B)
      .cases B
     refine⟨(d.toList.drop o).take (len*ei.size),J.sub I,by simp;omega,_,_,rfl,C len (bi _),fun k g w L=> ?_⟩;rw[lX,tT (kz _ g)];exact C k g w L
    .cases hc
   .cases hc
  .cases hc
theorem BK (a:List UInt8):VL ι (kT a) (a.map fun b=>Value.int .u8 (b.toNat:Int)):=by
 induction a with
 |nil=>simp[kT,VL]
 |cons b a ih=>
  simp only[kT,List.map_cons,VL]at ih ⊢;exact⟨_,_,rfl,by simp only[VR];rfl,ih⟩
theorem Dc (ok:Ok P p)(H:Sim P ι s h){ats:Array TypeId}{ei:TI}(hei:p.ty el=some ei){y:T}(hv:VR ι y v){news:List T}{k:Nat}(hd:We p s el ats.toList[1]? y=some (news,k)):
 ∃us,VL ι news us/\Src P ats h ei.size k v us:=by
 unfold We at hd;split at hd
 .rename_i r d;have d:ats[1]? =some r:=by simpa using d
  split at hd
  .rename_i R q;have C:=ok.tf q;split at hd
   .rename_i g;split at hd
    .rename_i a;cases hd;simp only[VR]at hv;subst hv;refine⟨_,BK a,⟨⟨r,_,d,C.string g,.inr rfl⟩,fun w _=>rfl,fun w _=> ?_,fun O n B w _=> ?_⟩⟩
     .simp only[bS,bE];congr 1;apply bz.1;simp[xM,rM,List.extract]
     .have G:n*ei.size=n:=by
       simp only[List.length_map]at O;rcases Nat.eq_zero_or_pos a.length with A|A
       .have:n=0:=by omega
        simp[this]
       .have:ei.size=1:=by
         have:=Nat.eq_of_mul_eq_mul_left A (show a.length*1=a.length*ei.size by omega);exact this.symm
        rw[this,zn]
      rw[G];simp only[bS,bE];congr 1;apply bz.1;simp[xM,rM,List.extract,List.map_take]
    .cases hd
   .rename_i I g;split at hd
    .rename_i cs n j B;cases hd;obtain⟨us,J,Q,a,c,rfl,L,N⟩:=p8 ok H hei hv j B;exact⟨us,J,⟨⟨r,_,d,C.slice g,.inl ⟨_,rfl⟩⟩,fun w _=>rfl,L,fun _=>N⟩⟩
    .cases hd
   .cases hd
  .cases hd
 .cases hd
theorem EW (ok:Ok P p){u:Option TypeId}(hd:rW p u=some el):∃t,u=some t/\P.underlying t=some (.slice el):=by
 unfold rW at hd;split at hd
 .split at hd
  .rename_i j d;split at hd
   .rename_i g c;cases hd;exact⟨_,rfl,(ok.tf d).slice c⟩
   .cases hd
  .cases hd
 .cases hd
theorem EY {H:Sim P ι s h}{b:Nat}{x:Inf}{o0:VO}(h0:s.at b=some o0)(hx:ι b=some x){h':Heap}{o:VO}{ob:Obj}{y:Inf}
 (hcase:(y.r=x.r/\Upd h h' x.r/\h'[x.r]? =some ob)\/(y.r=h.size/\h'=h.push ob)) (ho:∀ι',Sub ι ι'->OR P ι' y o ob):
 Sim P (ι.put s.nx y) (fM (bG s b none s.nx (dz s.low b)) o) h'/\Ste ι s h (ι.put s.nx y) (fM (bG s b none s.nx (dz s.low b)) o) h':=by
 obtain⟨V,k2⟩:=Lh H b (low:=dz s.low b) (by rw[iI];omega);generalize hs1:bG s b none s.nx (dz s.low b)=L at V k2;have O:L.nx=s.nx:=by rw[<-hs1,fq]
 have I:L.low=min s.low b:=by rw[<-hs1,iR,iI]
 have G:L.at b=none:=by
  rw[<-hs1,bO,if_pos ⟨Nk h0,rfl⟩]
 rcases hcase with⟨Q,u,hg⟩|⟨Q,rfl⟩
 .have hn:ι L.nx=none:=V.pI (bi _);have A:=Io.gU (x:=y) hn;rw[<-O];rw[zX];refine⟨⟨?_,?_,?_⟩,⟨A,?_,?_,by rw[u.size];exact bi _,fun c g hc0=>(by rw[bO,if_neg (by omega)];exact k2.dead c g hc0),?_,?_,?_⟩⟩
  .intro c z j;rw[fq,u.size];unfold Io.put at j;split at j
   .rename_i g;cases j;subst g;rw[Q];exact⟨Nat.lt_succ_self _,(H.fresh b x hx).2⟩
   .have:=V.fresh c z j;exact⟨by omega,this.2⟩
  .intro c d z z' g Z j q U;rw[bO]at g Z;unfold Io.put at j q;have J:∀c z,L.at c≠none->ι c=some z->z.r≠x.r:=by
    intro c z g j R;have N:s.at c≠none:=by
     intro W;apply g;rw[<-hs1,bO];split
     .rfl
     .exact W
    have:=H.inj c b z x N (by rw[h0];simp) j hx R;subst this;exact g G
   by_cases B:c=L.nx<;>by_cases C:d=L.nx
   .omega
   .simp only[B,if_true,Option.some.injEq]at j;simp only[C,if_false]at q;simp only[C,and_false,if_false]at Z;subst j;exact absurd (U.symm.trans Q) (J d z' Z q)
   .simp only[C,if_true,Option.some.injEq]at q;simp only[B,if_false]at j;simp only[B,and_false,if_false]at g;subst q;exact absurd (U.trans Q) (J c z g j)
   .simp only[B,if_false]at j;simp only[C,if_false]at q;simp only[B,and_false,if_false]at g;simp only[C,and_false,if_false]at Z;exact V.inj c d z z' g Z j q U
  .intro c o' g;rw[bO]at g;split at g
   .rename_i hh;cases g;obtain⟨_,rfl⟩:=hh;exact⟨y,ob,Io.dm,by rw[Q];exact hg,ho _ A⟩
   .rename_i hh;obtain⟨z,ob',W,h2,h3⟩:=V.obj c o' g;refine⟨z,ob',A _ _ W,?_,h3.mono A⟩;refine u.get h2 fun R=> ?_
    have N:s.at c≠none:=by
     intro W;rw[<-hs1,bO]at g;split at g
     .cases g
     .rw[W]at g;cases g
    have:=H.inj c b z x N (by rw[h0];simp) W hx R;subst this;rw[G]at g;cases g
  .rw[fq,O];omega
  .rw[iR,I];omega
  .intro c z j;unfold Io.put at j;split at j
   .rename_i g;cases j;refine .inr ⟨by omega,.inr ⟨b,x,hx,Q.symm,?_,by rw[h0];simp⟩⟩;rw[iR,I];omega
   .exact .inl j
  .intro c z j g;have:=(H.fresh c z j).1;refine k2.am c z j ?_;rw[qY,if_neg (by omega)]at g;exact g
  .intro r hr' hb';refine u.old r fun hrx=> ?_
   subst hrx;have:=hb' b x hx rfl;rw[iR,I,h0]at this;rcases this with this|this
   .cases this
   .omega
 .have hn:=V.pI (bi L.nx);have:=jQ V (o:=o) (ob:=ob) (x:=y) Q (ho _ (Io.gU hn));rw[O]at this;exact⟨this.1,k2.trans H.fresh this.2⟩
end
end app2
end Go.Run
namespace Go.Run
open Go Go.Eng
section app3
variable {P:Program}{p:Pr}{ι:Io}{s s':S}{h:Heap}{m:Fm}{e:E}{er:Env}{ty:TypeId}{t:T}{K:Value->Heap->Prop}
section
variable {cs:List T}{ei:TI}{el:TypeId}{us:List Value}{w:World}
theorem BZ {g:Nat}{cur:Array Value}{ct:TypeId}(hg:w.heap[g]? =some (.cells cur ct (0,0)))(c:Array Value):Upd w.heap (w.setRow g c).heap g/\(w.setRow g c).heap[g]? =some (.cells c ct (0,0))/\Eng.Rest w (w.setRow g c):=
 ⟨⟨by simp[World.setRow],fun k d=>setRow_other w g k c d⟩,setRow_heap w g cur c ct (0,0) hg,⟨rfl,rfl,rfl⟩⟩
theorem Ql (z:Array Value)(n:Nat):(dn z n).toList.length=n*z.size:=by rw[dC,size_zeroCells]
theorem zf (H:Sim P ι s h){b o:Nat}{ct:TypeId}{tl:Bool}(hb:s.at b=some (.row cs ct tl)){y:Inf}(hy:ι b=some y){vs:List T}(hv:VL ι vs us)(hl:o+vs.length<=cs.length){t:T}{v:Value}(ht:VR ι t v)(hw:w.heap=h):∃cur,h[y.r]? =some (.cells cur ct (0,0))/\o+us.length<=cur.size/\Post P ι s h t (gI s b (.row (spl cs o vs) ct tl)) v (w.setRow y.r (splice cur.toList o us).toArray).heap/\Eng.Rest w (w.setRow y.r (splice cur.toList o us).toArray):=by
 subst hw;obtain⟨cur,A,d,q,j⟩:=qZ H hb hy;obtain⟨u,c,B⟩:=BZ A (splice cur.toList o us).toArray;have g:=Nz (P:=P) (x:=y) d q j hv hl;obtain⟨q1,q2⟩:=kg H hb hy g u c (low:=min s.low b) (qm _ _) (.inl (wV _ _)) (by simp[VO.am]);rw[<-kR]at q1 q2;exact⟨cur,A,by rw[hv.length];omega,⟨ι,q2,q1,ht⟩,B⟩
theorem Nc (H:Sim P ι s h)(te:TF P el ei)(hsz:0<ei.size){zs:List Value}{cap n:Nat}(hv:VL ι cs us)(hl:us.length+zs.length=cap*ei.size)(hcap:cap<=maxLen)(hn:n<=cap):
 Post P ι s h (.own s.nx n) (fM s (.row cs el true)) (.slice (some ⟨h.size,0,none⟩) n cap) (h.push (.cells (us++zs).toArray el)):=by
 have c:=H.pI (bi s.nx);have:=jQ H (o:= .row cs el true) (ob:= .cells (us++zs).toArray el (0,0)) (x:=⟨h.size,cap,#[],0,0⟩) rfl
  ⟨_,rfl,by simp[hv.length],by have:=VL.mono (Io.gU (x:=⟨h.size,cap,#[],0,0⟩) c) cs hv;rw[<-hv.length];simpa using this,fun h=>(by cases h),fun _=>⟨by rw[te.size];exact hsz,by simp[te.size,hl],hcap⟩⟩
 exact⟨_,this.2,this.1,by simp only[VR];exact⟨_,Io.dm,rfl,hn⟩⟩
theorem Dz {need old:Nat}{size:Nat}{z:Array Value}(hz:z.size=size)(hu:us.length=need*size):
 us.length+(dn z (grownCap w need old el-need)).toList.length=grownCap w need old el*size:=by
 rw[Ql,hz,hu,<-lc];have:=grownCap_ge w need old el;congr 1;omega
theorem Dp (H:Sim P ι s h)(te:TF P el ei)(hsz:0<ei.size)(hv:VL ι cs us){need old:Nat}(hl:us.length=need*ei.size)(hneed:need<=1000000){z:Value}(hz:z.cells.size=ei.size)(hw:w.heap=h):
 Post P ι s h (.own s.nx need) (fM s (.row cs el true)) (.slice (some ⟨w.heap.size,0,none⟩) need (grownCap w need old el))
  (w.drew.alloc (.cells (us++(dn z.cells (grownCap w need old el-need)).toList).toArray el)).heap:=by
 subst hw;exact Nc H te hsz hv (Dz hz hl) (grownCap_le_maxLen w need old el (by simp only[maxLen];omega)) (grownCap_ge w need old el)
theorem Cw {c vs:List Value}{off:Nat}(hl:off+vs.length<=c.length):(splice c off vs).length=c.length:=by simp[splice];omega
theorem vZ (ok:Ok P p)(H:Sim P ι s h){ats:Array TypeId}{u:TypeId}(h0:ats[0]? =some u)(hu:P.underlying u=some (.slice el))(hei:p.ty el=some ei){x:T}{v w:Value}(hv:VR ι x v){news:List T}{k:Nat}(hnews:VL ι news us)(hsrc:Src P ats h ei.size k w us)(hd:qW p s el x news k=some (t,s'))(ty:TypeId)(W:World)(hW:W.heap=h):
 ∃r W',(gY ats ty #[v,w]).run P W= .ok r W'/\Eng.Rest W W'/\Post P ι s h t s' r W'.heap:=by
 have V:=ok.tf hei;obtain⟨inf,hi,I,hby⟩:=V.info;obtain⟨z,hz0,hzv⟩:=V.zero;have hz:inf.zero=some z:=by simpa[dJ,hi]using hz0
 unfold qW at hd;rw[hei]at hd;split at hd
 .rename_i ei' old len he L hn;cases he;obtain⟨os,o1,o2,a,c,C,o3,_⟩:=p8 ok H hei hv L hn;split at hd
  .rename_i hcc;simp only[aF]at hcc;obtain⟨⟨⟨⟨⟨c1,c2⟩,c3⟩,c4⟩,c5⟩,c6,c7⟩:=hcc;have hzs:z.cells.size=ei.size:=by
    have:=(dw (hzv ι) c6).length;rw[dC]at this;rw[this];exact aC c7
   have c1:=aH.1 c1;have c2:=aH.1 c2;have c3:=aC c3;have c4:=aH.1 c4;have O:∀q∈us,q.oneCell'=true:=fun q hq=>bJ.1 (wD hnews c5) q hq
   have hul:us.length=k*ei.size:=by rw[hnews.length,c3]
   have hol:os.length=len*ei.size:=by rw[o1.length,o2]
   have J:len+k<=1000000:=fw (sM _ c2) c4;have Q:(os++us).length=(len+k)*ei.size:=by rw[cz,hol,hul,lc]
   rw[<-I]at hsrc;subst hW;have N:c<len+k->∃W',(gY ats ty #[v,w]).run P W= .ok (.slice (some ⟨W.heap.size,0,none⟩) (len+k) (grownCap W (len+k) c el)) W'/\Eng.Rest W W'/\
    W'=W.drew.alloc (.cells (os++us++(dn z.cells (grownCap W (len+k) c el-(len+k))).toList).toArray el):=by
    intro hgr;rw[C];exact⟨_,uy h0 hu hi hz W hsrc (fun w' hw'=>by rw[I,<-C];exact o3 w' hw') hgr (by rw[hby];exact c4) J,⟨rfl,rfl,rfl⟩,rfl⟩
   have grown:c<len+k->t= .own s.nx (len+k)->s'=fM s (.row (old++news) el true)->∃r W',(gY ats ty #[v,w]).run P W= .ok r W'/\Eng.Rest W W'/\Post P ι s W.heap t s' r W'.heap:=by
    intro hgr ht hs';obtain⟨W',g1,g2,rfl⟩:=N hgr;subst ht hs';exact⟨_,_,g1,g2,Dp H V c1 (o1.append hnews) Q J hzs rfl⟩
   split at hd
   .simp only[VR]at hv;simp only[sliceLen,Option.some.injEq]at hn;subst hn;rw[hv]at C;obtain⟨qa,_,qc⟩:=Value.slice.inj C;subst qa;subst qc;split at hd
    .cases hd;refine⟨_,W,by rw[hv];exact zZ h0 hu hi W hsrc,Eng.Rest.refl W,Post.pure H ?_⟩;simp only[VR]
    .rename_i k;simp only[ownRow,Option.some.injEq,Prod.mk.injEq]at hd;obtain⟨rfl,rfl⟩:=hd;have ho:old=[]:=by
      simp only[gF,Option.some.injEq]at L;exact L.symm
     subst ho;exact grown (by omega) (by rw[ek]) rfl
   .rename_i b o g cap;simp only[VR]at hv;obtain⟨y,R,hv⟩:=hv;simp only[sliceLen,Option.some.injEq]at hn;subst hn;rw[hv]at C;obtain⟨qa,_,qc⟩:=Value.slice.inj C;subst qa;subst qc;split at hd
    .rename_i d;have d:=aH.1 d;unfold XV at hd;split at hd
     .rename_i cs ct tl hb;split at hd
      .rename_i j;have j:=aH.1 j;simp only[Option.some.injEq,Prod.mk.injEq]at hd;obtain⟨rfl,rfl⟩:=hd;have hfit':o+g*ei.size+news.length<=cs.length:=by rw[c3,Nat.add_assoc,<-lc];exact j
       obtain⟨A,q1,q2,q3,q4⟩:=zf (t:= .slice b o (g+k) cap) (v:= .slice (some ⟨y.r,o,none⟩) (g+k) cap) H hb R hnews hfit' (by simp only[VR];exact⟨y,R,rfl⟩) (w:=W) rfl;refine⟨_,_,?_,q4,q3⟩;rw[hv,<-I];exact oq h0 hu hi W hsrc q1 O d (by rw[I];exact q2)
      .cases hd
     .cases hd
    .rename_i d;have d:¬g+k<=cap:=fun hh=>by rw[aH.2 hh]at d;cases d
     simp only[ownRow,Option.some.injEq,Prod.mk.injEq]at hd;obtain⟨rfl,rfl⟩:=hd;exact grown (by omega) rfl rfl
   .rename_i b g;simp only[VR]at hv;obtain⟨y,R,hv,hle⟩:=hv;simp only[sliceLen,Option.some.injEq]at hn;subst hn;rw[hv]at C;obtain⟨qa,_,qc⟩:=Value.slice.inj C;subst qa;subst qc;unfold Ud at hd;split at hd
    .rename_i cs ct hb;split at hd
     .rename_i hct;obtain rfl:=aC hct;obtain⟨A,hg,hcl,hvl,htl⟩:=qZ H hb R;obtain⟨_,B,hmax⟩:=htl.2 rfl;rw[V.size]at B;have U:∀{us':List Value},us'=us->g+k<=y.cap->(gY ats ty #[v,w]).run P W= .ok (.slice (some ⟨y.r,0,none⟩) (g+k) y.cap) (W.setRow y.r (splice A.toList (g*ei.size) us).toArray):=by
       intro _ _ d;have:=oq (ty:=ty) h0 hu hi W hsrc hg O d (off:=0) (by rw[ek,I,hul,<-lc,B];exact kz _ d);rw[ek,I]at this;rw[hv];exact this
      split at hd
      .rename_i j;have j:=aH.1 j;simp only[Option.some.injEq,Prod.mk.injEq]at hd;obtain⟨rfl,rfl⟩:=hd;have d:g+k<=y.cap:=by
        have:(g+k)*ei.size<=y.cap*ei.size:=by rw[<-B];exact fw j hcl
        exact Nat.le_of_mul_le_mul_right this c1
       obtain⟨cur',q1,q2,q3,q4⟩:=zf (t:= .own b (g+k)) (v:= .slice (some ⟨y.r,0,none⟩) (g+k) y.cap) H hb R (o:=g*ei.size) hnews (by rw[c3,<-lc];exact j) (by simp only[VR];exact⟨y,R,rfl,d⟩) (w:=W) rfl;rw[hg]at q1;cases q1;exact⟨_,_,U rfl d,q4,q3⟩
      .simp only[ownRow,Option.some.injEq,Prod.mk.injEq]at hd;obtain⟨rfl,rfl⟩:=hd;rw[fq];have G:VL ι old (A.toList.take (g*ei.size)):=by
        unfold gF at L;split at L
        .rename_i h1;cases h1
        .rename_i h1;cases h1
        .rename_i h1 h2;simp only[hei,fP]at L;simp only[rowAt,hb]at L;split at L
         .rename_i hbb;cases L;have:=hvl.sub (aH.1 hbb);simpa using this
         .cases L
       by_cases d:g+k<=y.cap
       .obtain⟨u,hg',hr⟩:=BZ hg (splice A.toList (g*ei.size) us).toArray;have hsl:g*ei.size+us.length<=A.toList.length:=by rw[hul,<-lc,dC,B];exact kz _ d
        obtain⟨q1,q2⟩:=EY (H:=H) hb R (o:= .row (old++news) ct true) (y:=y) (.inl ⟨rfl,u,hg'⟩) fun ι' hs=>by
         refine⟨_,rfl,?_,?_,fun h=>(by cases h),fun _=>⟨by rw[V.size];exact c1,?_,hmax⟩⟩
         .simp only[cz,G.length.symm,hnews.length.symm,uE,splice,kD,List.length_drop];omega
         .have:(splice A.toList (g*ei.size) us).take (old++news).length=A.toList.take (g*ei.size)++us:=by
           unfold splice;rw[List.take_append_of_le_length]
           .apply List.take_of_length_le;rw[cz,cz,G.length,hnews.length];exact bi _
           .rw[cz,cz,G.length,hnews.length];exact bi _
          show VL ι' (old++news) ((splice A.toList (g*ei.size) us).toArray.toList.take (old++news).length);rw[dG,this];exact(VL.mono hs _ G).append (VL.mono hs _ hnews)
         .rw[V.size,<-B,uE,Cw hsl,dC]
        refine⟨_,_,U rfl d,hr,_,q2,q1,?_⟩;simp only[VR];exact⟨y,Io.dm,rfl,d⟩
       .obtain⟨W',g1,g2,hW'⟩:=N (by omega);have hheap:W'.heap=W.heap.push (.cells (os++us++(dn z.cells (grownCap W (g+k) y.cap ct-(g+k))).toList).toArray ct):=by rw[hW'];rfl
        obtain⟨q1,q2⟩:=EY (H:=H) (h':=W'.heap) hb R (o:= .row (old++news) ct true) (y:=⟨W.heap.size,grownCap W (g+k) y.cap ct,#[],0,0⟩) (.inr ⟨rfl,hheap⟩) fun ι' hs=>by
         have hll:=Dz (w:=W) (old:=y.cap) (el:=ct) hzs Q;have hvv:=(VL.mono hs _ o1).append (VL.mono hs _ hnews);refine⟨_,rfl,?_,?_,fun h=>(by cases h),fun _=>⟨by rw[V.size];exact c1,?_,grownCap_le_maxLen W _ _ _ (by simp only[maxLen];omega)⟩⟩
         .rw[<-hvv.length];simp
         .have:∀Z:List Value,((os++us++Z).toArray.toList).take (os++us).length=os++us:=fun Z=>by rw[dG];exact List.take_left
          rw[<-hvv.length,this];exact hvv
         .rw[V.size,uE,cz];exact hll
        refine⟨_,_,g1,g2,_,q2,q1,?_⟩;simp only[VR];exact⟨_,Io.dm,rfl,grownCap_ge W _ _ _⟩
     .cases hd
    .cases hd
   .cases hd
  .cases hd
 .cases hd
end
end app3
end Go.Run
namespace Go.Run
open Go Go.Eng
section blts
variable {P:Program}{p:Pr}{ι:Io}{s s':S}{h:Heap}{m:Fm}{e:E}{er:Env}{ty:TypeId}{t:T}{K:Value->Heap->Prop}
section
variable {ats:Array TypeId}{v w:Value}{x y:T}
theorem Yh (ok:Ok P p)(H:Sim P ι s h){u xt el:TypeId}{q:IntKind}(h0:ats[0]? =some u)(hu:P.underlying u=some (.slice el))(h1:ats[1]? =some xt)(hxt:P.underlying xt=some (.int q))(hv:VR ι x v)(hw:VR ι y w)(hd:Yy p s el x y=some (t,s')):BI P .append ats ι s h t s' [v,w]:=by
 unfold Yy at hd;split at hd
 .rename_i m ei L;split at hd
  .rename_i hc;simp only[aF]at hc;obtain⟨⟨⟨c1,c2⟩,c3⟩,c4,c5⟩:=hc;have c1:=aH.1 c1;have c2:=aH.1 c2;have c3:=aH.1 c3;have c5:=aC c5;simp only[ownRow,Option.some.injEq,Prod.mk.injEq]at hd;obtain⟨rfl,rfl⟩:=hd;have te:=ok.tf L;obtain⟨c,hi,R,j⟩:=te.info;obtain⟨z,V,hzv⟩:=te.zero;have hz:c.zero=some z:=by simpa[dJ,hi]using V
   have k1:=dw (hzv ι) c4;have G:z.cells.size=ei.size:=by
    have:=k1.length;rw[dC]at this;rw[this];exact c5
   simp only[VR,bL]at hv hw;subst hv hw;have hm:m+1<=1000000:=fw (sM _ c2) c3;refine gG (fun _ _ _=>rfl) fun ty W hW=>⟨.slice (some ⟨W.heap.size,0,none⟩) (m+1) (grownCap W (m+1) 0 el),W.drew.alloc (.cells ((aZ (m+1) z.cells.toList).flatten++(dn z.cells (grownCap W (m+1) 0 el-(m+1))).toList).toArray el),?_,⟨rfl,rfl,rfl⟩,?_⟩
   .have hf:=growslice_fits (need:=m+1) (old:=0) (bytes:=c.bytes) (by omega) (by rw[j];omega);have I:¬(281474976710656<IA (m+1) 0*c.bytes):=by omega
    have g:IntKind.i64.wrap ((m+1:Nat):Int)=((m+1:Nat):Int):=IntWalk.i64_in _ ⟨by omega,by omega⟩;have d:IntKind.i64.wrap ((m:Int)+1)=((m+1:Nat):Int):=g;have O:¬(281474976710656:Int)<((m+1:Nat):Int)*(c.bytes:Int):=by
     have:((m+1:Nat):Int)*(c.bytes:Int)=(((m+1)*c.bytes:Nat):Int):=by simp
     rw[this,j];omega
    have r:¬(281474976710656:Int)<((m:Int)+1)*(c.bytes:Int):=O;have Q:¬((m+1)*c.size=0):=by
     rw[R,Nat.mul_eq_zero];omega
    have Z:¬(c.size=0):=by omega
    have J:¬(9223372036854775807:Int)<(m:Int)+1:=by omega
    have B:¬((m:Int)+1<0):=by omega
    have hzr:=pW z.cells (m+1);have C:dn z.cells (m+1)=((aZ (m+1) z.cells.toList).flatten).toArray:=hzr;have U:((m:Int)+1).toNat=m+1:=by omega
    have N:(bS c.size 0 (.slice none 0 0)).run P W.drew= .ok #[] W.drew:=rfl;simp[gY,h0,h1,run_underlying hu,run_underlying hxt,sizeOf,typeInfo,zeroValue,hi,hz,asInt,asIntOf,d,r,B,U,J,I,Z,Question.forced,newRow,N,C,grownCap];have e:∀A:Array Value,(aZ (m+1) z.cells.toList).flatten.toArray++A=((aZ (m+1) z.cells.toList).flatten++A.toList).toArray:=fun A=>by apply bz.1;simp
    rw[if_neg (show¬((m:Int)+1<=0) by omega),if_neg (show¬(9223372036854775807<max ((m:Int)+1) 0) by omega),if_neg Q,e]
   .subst hW;have hl:((aZ (m+1) z.cells.toList).flatten).length=(m+1)*ei.size:=by
     simp[G]
    exact Dp (need:=m+1) (old:=0) H te c1 (uO k1 (m+1)) hl hm G rfl
  .cases hd
 .cases hd
theorem yS {k:Nat}:∀{els:List (List T)},(∀e∈els,e.length=k)->els.flatten.length=els.length*k
 |[],_=>by simp
 |e::els,h=>by
  rw[List.flatten_cons,cz,h e (by simp),yS fun x c=>h x (by simp[c]),List.length_cons,lc,Nat.one_mul,Nat.add_comm]
theorem Km (ok:Ok P p)(H:Sim P ι s h){u el:TypeId}{ei:TI}(h0:ats[0]? =some u)(hu:P.underlying u=some (.slice el))(hei:p.ty el=some ei)(hv:VR ι x v){news:List T}{us:List Value}{k:Nat}(hnews:VL ι news us)(hsrc:Src P ats h ei.size k w us)(hd:BN p s el x news k=some (t,s'))(ty:TypeId)(W:World)(hW:W.heap=h):
 ∃r W',(gY ats ty #[v,w]).run P W= .ok r W'/\Eng.Rest W W'/\Post P ι s h t s' r W'.heap:=by
 unfold BN at hd;split at hd
 .rename_i b len els ct hb;unfold XJ at hb;split at hb
  .rename_i j I;split at hb
   .rename_i J q L;simp only[Option.some.injEq,Prod.mk.injEq]at hb;obtain⟨rfl,rfl,rfl,rfl⟩:=hb;rw[hei]at hd;simp only at hd;split at hd
    .rename_i C;simp only[aF,bJ]at C;obtain⟨c1,c2,c3,c4⟩:=C;obtain rfl:=aC c1;obtain rfl:=aC c2;have c3:=aC c3;split at hd
     .rename_i Q;cases hd;obtain⟨y,ob,g1,g2,G,cur,p1,p2,p3,p4,p5,p6,p7⟩:=H.obj _ _ L;have hb16:j<=16383:=by
       unfold S.at at L;rw[aJ]at L;split at L
       .rename_i hb;exact aH.1 hb
       .cases L
      have hlen:G.flatten.length=I*ei.size:=by
       rw[yS (k:=ei.size) fun e he=>aC (c4 e (p1.mem_iff.1 he)),p1.length_eq,c3]
      have hq:∀c,(dX s j (.row G.flatten q true)).at c=if c=j then some (.row G.flatten q true)else s.at c:=fun c=>by
       rw[show(dX s j (.row G.flatten q true)).at c=if j<=16383/\c=j then some (.row G.flatten q true)else s.at c from bO s j c _ _ _];simp only[hb16,true_and]
      have N:(dX s j (.row G.flatten q true)).nx=s.nx:=by unfold dX bG;rw[aJ];split<;>simp[En.aV]
      have hql:(dX s j (.row G.flatten q true)).low=s.low:=by unfold dX bG;rw[aJ];split<;>simp[En.aV]
      generalize hsr:dX s j (.row G.flatten q true)=B at hq N hql;have live:∀c,B.at c≠none->s.at c≠none:=fun c C=>by
       by_cases A:c=j
       .subst A;rw[L];simp
       .rw[hq,if_neg A]at C;exact C
      have Hr:Sim P ι B h:=⟨fun c y hy=>by rw[N];exact H.fresh c y hy,fun c d y z C hd=>H.inj c d y z (live c C) (live d hd),fun c o U=>by
       by_cases A:c=j
       .subst A;rw[hq,if_pos rfl]at U;cases U;exact⟨y,ob,g1,g2,cur,p2,p3,p4,fun h=>(by cases h),fun _=>⟨p5,p6,p7⟩⟩
       .rw[hq,if_neg A]at U;exact H.obj c o U⟩
      have hap:qW p B q (.own j I) news 1=some (.own s.nx (I+1),fM (bG B j none B.nx (dz B.low j)) (.row (G.flatten++news) q true)):=by
       have e1:gF p B q (.own j I)=some G.flatten:=by
        have e2:rowAt B j=some G.flatten:=by unfold rowAt;rw[hq,if_pos rfl]
        simp only[gF,fP,hei,e2];rw[aH.2 (by omega)];simp only[List.drop_zero];rw[<-hlen,List.take_length]
       have hnl:bn ((I+1)*ei.size) G.flatten.length=false:=by
        cases hz:bn ((I+1)*ei.size) G.flatten.length with
        |false=>rfl
        |true=>
         have:=aH.1 hz;simp only[aF]at Q;have h1:=aH.1 Q.1.1.1.1.1;rw[hlen,lc,Nat.one_mul]at this;omega
       unfold qW;rw[hei,e1];simp only[sliceLen];rw[Q];simp only[Ud];rw[hq,if_pos rfl];simp only;rw[lG,hnl];simp only[ownRow];have hnx0:(bG B j none B.nx (dz B.low j)).nx=s.nx:=by rw[<-N];unfold bG;rw[aJ];split<;>simp[En.aV]
       rw[hnx0]
      obtain⟨r,W',a1,a2,a3⟩:=vZ ok Hr h0 hu hei hv hnews hsrc hap ty W hW;refine⟨r,W',a1,a2,?_⟩;obtain⟨ι',q1,q2,q3⟩:=a3;have hb0:j<s.nx:=(H.fresh j y g1).1;have nO:∀(z:S) (o:VO) (c:Nat),(fM z o).at c=(if z.nx<=16383/\c=z.nx then some o else z.at c)/\(fM z o).nx=z.nx+1/\(fM z o).low=z.low:=fun z o c=>by
       rw[zX];refine⟨bO z z.nx c _ _ _,?_,?_⟩
       .unfold bG;rw[aJ];split<;>simp[En.aV]
       .unfold bG;rw[aJ];split<;>simp[En.aV]
      have sV:∀(z:S) (l:Nat) (c:Nat),(bG z j none z.nx l).at c=(if c=j then none else z.at c)/\(bG z j none z.nx l).nx=z.nx/\(bG z j none z.nx l).low=l:=fun z l c=>by
       refine⟨by rw[bO];simp only[hb16,true_and],?_,?_⟩
       .unfold bG;rw[aJ];split<;>simp[En.aV]
       .unfold bG;rw[aJ];split<;>simp[En.aV]
      have Z:∀c,(fM (bG B j none B.nx (dz B.low j)) (.row (G.flatten++news) q true)).at c=if s.nx<=16383/\c=s.nx then some (.row (G.flatten++news) q true)else if c=j then none else s.at c:=fun c=>by
       rw[(nO _ _ c).1,(sV B _ c).1,(sV B (dz B.low j) 0).2.1,N];by_cases A:c=j
       .simp[A]
       .simp only[A,if_false];rw[hq,if_neg A]
      have V:∀c,(fM (bG s j none s.nx (dz s.low j)) (.bag (J++[news]) q)).at c=if s.nx<=16383/\c=s.nx then some (.bag (J++[news]) q)else if c=j then none else s.at c:=fun c=>by
       rw[(nO _ _ c).1,(sV s _ c).1,(sV s (dz s.low j) 0).2.1]
      have nR:(fM (bG B j none B.nx (dz B.low j)) (.row (G.flatten++news) q true)).nx=s.nx+1:=by rw[(nO _ _ 0).2.1,(sV B _ 0).2.1,N]
      have nB:(fM (bG s j none s.nx (dz s.low j)) (.bag (J++[news]) q)).nx=s.nx+1:=by rw[(nO _ _ 0).2.1,(sV s _ 0).2.1]
      have lR:(fM (bG B j none B.nx (dz B.low j)) (.row (G.flatten++news) q true)).low=dz s.low j:=by rw[(nO _ _ 0).2.2,(sV B _ 0).2.2,hql]
      have lB:(fM (bG s j none s.nx (dz s.low j)) (.bag (J++[news]) q)).low=dz s.low j:=by rw[(nO _ _ 0).2.2,(sV s _ 0).2.2]
      generalize fM (bG B j none B.nx (dz B.low j)) (.row (G.flatten++news) q true)=sR at q1 q2 Z nR lR;generalize fM (bG s j none s.nx (dz s.low j)) (.bag (J++[news]) q)=sB at V nB lB;have oth:∀c,c≠s.nx->sB.at c=sR.at c:=fun c C=>by
       rw[V,Z];simp only[C,and_false,if_false]
      have liveB:∀c,sB.at c≠none->sR.at c≠none:=fun c C=>by
       by_cases O:c=s.nx
       .subst O;rw[V]at C;rw[Z];by_cases R:s.nx<=16383
        .simp[R]
        .simp only[R,false_and,if_false]at C ⊢;exact C
       .rw[<-oth c O];exact C
      have noneR:∀c,s.at c=none->B.at c=none:=fun c C=>by
       by_cases A:c=j
       .subst A;rw[L]at C;cases C
       .rw[hq,if_neg A];exact C
      have amr:∀c,bZ B c=bZ s c:=fun c=>by
       unfold bZ;by_cases A:c=j
       .subst A;rw[L,hq,if_pos rfl];rfl
       .rw[hq,if_neg A]
      refine⟨ι',⟨q1.sub,by rw[nB];omega,by rw[lB];have:=q1.low;rw[lR,hql]at this;exact this,q1.size,fun c C hz=> ?_,fun c y hy=> ?_,fun c y hy hz=> ?_,fun r hr hcc=>q1.old r hr fun c y hy he=> ?_⟩,⟨fun c y hy=>by rw[nB,<-nR];exact q2.fresh c y hy,fun c d y z C hd=>q2.inj c d y z (liveB c C) (liveB d hd),fun c o U=> ?_⟩,q3⟩
      .have:=q1.dead c (by rw[N];exact C) (noneR c hz);rw[oth c (by omega)];exact this
      .rw[lB];rcases q1.grow c y hy with g|⟨g,g'|⟨d,z,e1,e2,e3,e4⟩⟩
       .exact .inl g
       .exact .inr ⟨by rw[<-N];exact g,.inl g'⟩
       .exact .inr ⟨by rw[<-N];exact g,.inr ⟨d,z,e1,e2,by rw[<-lR];exact e3,live d e4⟩⟩
      .rw[<-amr];refine q1.am c y hy ?_;have O:c≠s.nx:=fun e=>by have:=(H.fresh c y hy).1;omega
       unfold bZ at hz ⊢;rw[oth c O]at hz;exact hz
      .rcases hcc c y hy he with g|⟨g,g'⟩
       .exact .inl (noneR c g)
       .exact .inr ⟨by rw[lR,<-lB];exact g,by rw[amr];exact g'⟩
      .by_cases O:c=s.nx
       .subst O;by_cases R:s.nx<=16383
        .rw[V]at U;simp only[R,true_and,if_true]at U;cases U;obtain⟨z,ob2,e1,e2,cur2,e3,e4,e5,e6,e7⟩:=q2.obj s.nx (.row (G.flatten++news) q true) (by rw[Z];simp[R]);obtain⟨f1,f2,f3⟩:=e7 rfl;have hfl:(G++[news]).flatten=G.flatten++news:=by simp
         exact⟨z,ob2,e1,e2,G++[news],cur2,p1.append_right _,e3,by rw[hfl];exact e4,by rw[hfl];exact e5,f1,f2,f3⟩
        .rw[V]at U;refine q2.obj s.nx o ?_;rw[Z];simp only[R,false_and,if_false]at U ⊢;exact U
       .rw[oth c O]at U;exact q2.obj c o U
     .cases hd
    .cases hd
   .cases hb
  .cases hb
 .cases hd
theorem SQ (ok:Ok P p)(H:Sim P ι s h)(hv:VR ι x v)(hw:VR ι y w)(hd:YW p s ats.toList x y=some (t,s')):BI P .append ats ι s h t s' [v,w]:=by
 unfold YW at hd;split at hd
 .rename_i el B;obtain⟨u,I,G⟩:=EW ok B;have j:ats[0]? =some u:=by simpa using I
  split at hd
  .rename_i c;unfold SB descOf at c;split at c
   .rename_i q d;split at d
    .rename_i U J;split at d
     .rename_i R C;simp only[Option.some.injEq]at d;exact Yh ok H j G (by simpa using J) ((ok.tf C).int d) hv hw hd
     .cases d
    .cases d
   .cases c
  split at hd
  .rename_i news k Q;cases hei:p.ty el with
   |none=>
    have O:BN p s el x news k=none:=by
     unfold BN;split
     .rw[hei]
     .rfl
    rw[O]at hd;unfold qW at hd;rw[hei]at hd;simp at hd
   |some ei=>
    obtain⟨us,L,N⟩:=Dc ok H hei hw Q;split at hd
    .rename_i r g;cases hd;exact gG (fun _ _ _=>rfl) fun ty W A=>Km ok H j G hei hv L N g ty W A
    .exact gG (fun _ _ _=>rfl) fun ty W A=>vZ ok H j G hei hv L N hd ty W A
  .cases hd
 .cases hd
theorem Y1 (ok:Ok P p)(H:Sim P ι s h)(hv:VR ι x v)(hw:VR ι y w)(hd:UF p s ats.toList x y=some (t,s')):BI P .copy ats ι s h t s' [v,w]:=by
 unfold UF at hd;split at hd
 .rename_i el Q;obtain⟨u,U,R⟩:=EW ok Q;have Z:ats[0]? =some u:=by simpa using U
  split at hd
  .rename_i ei src k n j hs hn;have te:=ok.tf j;obtain⟨inf,hi,B,hby⟩:=te.info;obtain⟨us,I,J⟩:=Dc ok H j hw hs;obtain⟨a,c,C⟩:=yK hv hn;split at hd
   .rename_i b o n' hp;obtain⟨y',c',hy,G,_⟩:=uh hv hp;rw[C]at G;cases G;unfold TC at hd;split at hd
    .rename_i cs ct tl hb;split at hd
     .rename_i hc;cases hd;rw[iI]at *;simp only[aF]at hc;obtain⟨⟨c1,c2⟩,c3⟩:=hc;have c1:=aH.1 c1;have c3:=aC c3;have V:us.length=k*ei.size:=by rw[I.length,c3]
      have hmk:min k n*ei.size<=k*ei.size:=kz _ (qm _ _);have q:=wD (I.take (min k n*ei.size)) c2;refine gG (fun _ _ _=>rfl) fun ty W g=> ?_
      obtain⟨L,q1,q2,q3,q4⟩:=zf (t:= .int .i64 (.ofNat (min k n))) (v:= .int .i64 (min k n:Nat)) H hb hy (o:=o) (I.take (min k n*ei.size)) (by rw[kD];omega) (by simp only[VR];rfl) (w:=W) g;subst g;have N:=J.len W rfl;have O:(bS ei.size (min k n) w).run P W= .ok (us.take (min k n*ei.size)).toArray W:=by
       exact J.part V _ (qm _ _) W rfl
      have A:=run_storeCells_at P y'.r o ct (us.take (min k n*ei.size)) 0 L W q1 (by simpa using q2) (fun x hx=>bJ.1 q x hx);simp only[ko]at A;refine⟨_,_,?_,q4,q3⟩;rw[C];have e3:Nat.min k n=min k n:=rfl;simp only[zS,aY,run_underlying R,sizeOf,typeInfo];simp[Z,run_underlying R,hi,B,N,O,e3,A,splice,goInt]
     .cases hd
    .cases hd
   .split at hd
    .rename_i d _;have d:=aC d;cases hd;simp only[VR]at hv;refine gG (fun _ _ _=>rfl) fun ty W g=>⟨.int .i64 0,W,?_,Eng.Rest.refl W,by rw[g];exact Post.pure H (by simp only[VR])⟩
     subst g;have N:=J.len W rfl;rw[hv];have O:=J.part (by rw[I.length,d]) 0 (Nat.zero_le _) W rfl;simp[O,zS,Z,run_underlying R,sizeOf,typeInfo,hi,B,N,goInt]
    .cases hd
  .cases hd
 .cases hd
theorem Ox {l:List T}:∀n,(rep n l).length=n*l.length
 |0=>by simp[rep]
 |n+1=>by rw[rep,cz,Ox n,lc];omega
theorem PM {l:List T}(hl:l.all vo=true):∀n,(rep n l).all vo=true
 |0=>by simp[rep]
 |n+1=>by rw[rep,List.all_append,hl,PM hl n];rfl
theorem Uy (ok:Ok P p)(H:Sim P ι s h)(hv:VR ι x v)(hd:ND p s ats.toList x=some (t,s')):BI P .clear ats ι s h t s' [v]:=by
 have g:VR ι (.tup []) (.tuple #[]):=by simp only[VR];exact⟨_,rfl,by simp[VL]⟩
 unfold ND at hd;split at hd
 .rename_i kt vt A;obtain⟨u,ti,j,tf,B⟩:=ik ok A;have C:ats[0]? =some u:=by simpa using j
  have j:=tf.map B;split at hd
  .rename_i b;simp only[VR]at hv;obtain⟨y,N,rfl⟩:=hv;split at hd
   .rename_i es c L;cases hd;obtain⟨U,V,h2,h3⟩:=jN H L N;have O:jZ [] c:=by simp[jZ]
    refine gG (fun _ _ _=>rfl) fun ty W q=>⟨.tuple #[],{W with heap:=W.heap.setIfInBounds y.r (.map #[] c)},?_,⟨rfl,rfl,rfl⟩,?_⟩
    .subst q;have g1:=bR (P:=P) V;have g2:=eF (P:=P) (.map #[] c) V;simp[rf,C,run_underlying j,g1,g2]
    .rw[<-q]at H ⊢;exact gW H L N (o:= .map [] c) (ob:= .map #[] c) ⟨#[],rfl,rfl,O⟩ g
   .cases hd
  .cases hd;simp only[VR]at hv;subst hv;refine gG (fun _ _ _=>rfl) fun ty W q=>⟨.tuple #[],W,?_,Eng.Rest.refl W,by rw[q];exact Post.pure H g⟩
   simp[rf,C,run_underlying j]
  .cases hd
 .rename_i el A;obtain⟨u,ti,j,tf,B⟩:=ik ok A;have C:ats[0]? =some u:=by simpa using j
  have j:=tf.slice B;split at hd
  .cases hd;simp only[VR]at hv;subst hv;refine gG (fun _ _ _=>rfl) fun ty W q=>⟨.tuple #[],W,?_,Eng.Rest.refl W,by rw[q];exact Post.pure H g⟩
   simp[rf,C,run_underlying j]
  .split at hd
   .rename_i b o n ei hp Q;have te:=ok.tf Q;obtain⟨z,z1,z2⟩:=CV te;obtain⟨y,c,N,rfl,_⟩:=uh hv hp;unfold PG at hd;split at hd
    .rename_i cs R tl L;split at hd
     .rename_i Z;cases hd;simp only[aF]at Z;obtain⟨⟨⟨c1,c2⟩,c3⟩,c4⟩:=Z;have c1:=aH.1 c1;have c4:=aC c4;have hz:=dw (z2 ι) c2;have hzs:z.cells.size=ei.size:=by rw[<-c4,<-hz.length,dC]
      have I:=uO hz n;have G:=wD I (PM c3 n);refine gG (fun _ _ _=>rfl) fun ty W q=> ?_
      obtain⟨d,q1,q2,q3,q4⟩:=zf (t:= .tup []) (v:= .tuple #[]) H L N (o:=o) I (by rw[Ox,c4];exact c1) g (w:=W) q;subst q;cases n with
      |zero=>
       refine⟨.tuple #[],W,by simp[rf,C,run_underlying j],Eng.Rest.refl W,?_⟩;have e1:(W.setRow y.r (splice d.toList o (aZ 0 z.cells.toList).flatten).toArray)=W:=by
        have e2:(splice d.toList o (aZ 0 z.cells.toList).flatten).toArray=d:=by simp[splice]
        rw[e2];exact setRow_self W y.r d R (0,0) q1
       rw[e1]at q3;exact q3
      |succ n=>
       refine⟨.tuple #[],_,?_,q4,q3⟩;have J:=run_storeCells_at P y.r o R (aZ (n+1) z.cells.toList).flatten 0 d W q1 (by simpa using q2) (fun x hx=>bJ.1 G x hx);simp only[ko]at J;have e3:(dn z.cells (n+1)).toList=(aZ (n+1) z.cells.toList).flatten:=by
        unfold dn;rw[pW]
       have e4:(splice d.toList o (aZ (n+1) z.cells.toList).flatten)=d.toList.take o++(aZ (n+1) z.cells.toList).flatten++d.toList.drop (o+(aZ (n+1) z.cells.toList).flatten.length):=rfl;rw[e4];simp only[rf,aY,run_underlying j,C];simp[run_underlying j,z1,e3,J]
     .cases hd
    .cases hd
   .cases hd
 .cases hd
theorem zAg (ok:Ok P p)(H:Sim P ι s h)(hv:VR ι x v)(hd:ZQ p s ats.toList x=some (t,s')):BI P .cap ats ι s h t s' [v]:=by
 unfold ZQ at hd;split at hd
 .rename_i el j;obtain⟨u,B,d,tf,q⟩:=ik ok j;have r:ats[0]? =some u:=by simpa using d
  have d:=tf.slice q;split at hd
  .cases hd;simp only[VR]at hv;subst hv;refine gG (fun _ _ _=>rfl) fun ty W g=>⟨.int .i64 0,W,?_,Eng.Rest.refl W,by rw[g];exact Post.pure H (by simp only[VR])⟩
   simp[Builtin.cap_,r,run_underlying d,goInt]
  .cases hd;rename_i c;simp only[VR]at hv;obtain⟨y,A,rfl⟩:=hv;refine gG (fun _ _ _=>rfl) fun ty W g=>⟨.int .i64 c,W,?_,Eng.Rest.refl W,by rw[g];exact Post.pure H (by simp only[VR];rfl)⟩
   simp[Builtin.cap_,r,run_underlying d,goInt]
  .cases hd
 .cases hd
end
end blts
end Go.Run
namespace Go.Run
open Go Go.Eng
section maps3
variable {P:Program}{p:Pr}{ι:Io}{s s':S}{h:Heap}{m:Fm}{e:E}{er:Env}{ty:TypeId}{t:T}{K:Value->Heap->Prop}
section
variable {ats:Array TypeId}{k:T}{u:TypeId}{v:Value}{x:T}
theorem pG (es:Array MapEntry)(i:Nat):(es.eraseIdxIfInBounds i).toList=es.toList.eraseIdx i:=by
 unfold Array.eraseIdxIfInBounds;split
 .simp only[Array.toList_eraseIdx]
 .rename_i h;rw[List.eraseIdx_of_length_le];simpa using h
theorem FR.ut {l:List MapEntry}{j:Nat}{r:Option (Nat×Value)}(H:FR l 0 v (some j) r):∃e,l[j]? =some e/\e.key=v/\r=some (j,e.val):=by
 obtain⟨e,c,d,g⟩:=H;exact⟨e,c,d,by rw[g,ek]⟩
theorem JM:VR ι (.tup []) (.tuple #[]):=by simp only[VR];exact⟨_,rfl,by simp[VL]⟩
theorem uI:VR ι fB undef:=by simp[fB,VR,undef,VL]
theorem Ba {ki:TI}{k:T}:∀{es:List Ent} {j:Nat},iT ki k es=some (some j)->(∃y,es[j]? =some y/\fV ki k y.1=some true)/\∀y∈es.take j,fV ki k y.1=some false
 |[],j,h=>by simp[iT]at h
 |x::es,j,h=>by
  rcases tH h with⟨d,g⟩|⟨d,o,g,q⟩
  .cases g;exact⟨⟨x,rfl,d⟩,by simp⟩
  .cases o with
   |none=>cases q
   |some i=>
    simp only[Option.map_some,Option.some.injEq]at q;subst q;obtain⟨⟨y,r,A⟩,B⟩:=Ba g;refine⟨⟨y,by simpa using r,A⟩,fun z c=> ?_⟩;rw[List.take_succ_cons]at c;rcases bP.1 c with rfl|c
    .exact d
    .exact B z c
theorem KP {ki:TI}{k:T}:∀{es:List Ent} {j:Nat} {y:Ent},es[j]? =some y->fV ki k y.1=some true->(∀z∈es.take j,fV ki k z.1=some false)->iT ki k es=some (some j)
 |[],j,y,h,_,_=>by simp at h
 |x::es,0,y,h,h1,_=>by simp at h;subst h;simp[iT,h1]
 |x::es,j+1,y,h,h1,h2=>by
  have c:=h2 x (by simp);have d:=KP (es:=es) (j:=j) (y:=y) (by simpa using h) h1 fun z g=>h2 z (by simp[g])
  simp[iT,c,d]
theorem RV {ki:TI}{es es':List Ent}{j j':Nat}(hs:Xa es es' j j')(hf:iT ki k es=some (some j)):iT ki k es'=some (some j'):=by
 obtain⟨⟨y,d,g⟩,q⟩:=hs;obtain⟨⟨C,c,r⟩,A⟩:=Ba hf;rw[d]at c;cases c;exact KP g r fun z B=>A z (q.subset B)
theorem SK (ok:Ok P p)(H:Sim P ι s h){w:Value}(hv:VR ι x v)(hw:VR ι k w)(hd:Yt p s ats.toList x k=some (t,s')):BI P .delete ats ι s h t s' [v,w]:=by
 unfold Yt at hd;split at hd
 .rename_i u N;have V:ats[0]? =some u:=by simpa using N
  split at hd
  .rename_i ki vi b hm;obtain⟨kt,vt,N,G,tv⟩:=o9 ok hm;simp only[VR]at hv;obtain⟨y,O,rfl⟩:=hv;unfold Om at hd;split at hd
   .rename_i es c C;obtain⟨d,B,g,R⟩:=jN H C O;split at hd
    .rename_i j A L;cases hd;refine gG (fun _ _ _=>rfl) fun ty W q=>⟨.tuple #[],{W with heap:=W.heap.setIfInBounds y.r (.map (d.eraseIdxIfInBounds j) c)},?_,⟨rfl,rfl,rfl⟩,?_⟩
     .subst q;obtain⟨r,q1,q2⟩:=jH G hw A g L W;obtain⟨e',_,_,rfl⟩:=q2.ut;have c1:=gM G hw A d.isEmpty W;have I:=bR (P:=P) B;have J:=eF (P:=P) (.map (d.eraseIdxIfInBounds j) c) B;simp[sS,V,run_underlying N,I,J,c1,q1]
     .rw[<-q]at H ⊢;exact gW H C O (o:= .map (KM es j) c) (ob:= .map (d.eraseIdxIfInBounds j) c) ⟨_,rfl,by rw[pG];exact g.del,R.del⟩ JM
    .rename_i A L;cases hd;refine gG (fun _ _ _=>rfl) fun ty W q=>⟨.tuple #[],{W with heap:=W.heap.setIfInBounds y.r (.map d c)},?_,⟨rfl,rfl,rfl⟩,?_⟩
     .subst q;obtain⟨r,q1,q2⟩:=jH G hw A g L W;have q2:r=none:=q2;subst q2;have c1:=gM G hw A d.isEmpty W;have I:=bR (P:=P) B;have J:=eF (P:=P) (.map d c) B;simp[sS,V,run_underlying N,I,J,c1,q1]
     .rw[<-q]at H ⊢;exact gW H C O (o:= .map es c) (ob:= .map d c) ⟨_,rfl,g,R⟩ JM
    .cases hd
   .rename_i es j C;split at hd
    .rename_i i A L;split at hd
     .rename_i Z;cases hd;obtain rfl:=aC Z;obtain⟨y',ob,B,g,R⟩:=H.obj b _ C;rw[O]at B;cases B;obtain⟨U,Q,en,a1,a2,a3,a4,a5,rfl⟩:=R;simp only[eB,if_false]at g;refine gG (fun _ _ _=>rfl) fun ty W q=>⟨.tuple #[],{W with heap:=W.heap.setIfInBounds y.r (.map (y.gh.eraseIdxIfInBounds Q) y.clock)},?_,⟨rfl,rfl,rfl⟩,?_⟩
      .subst q;obtain⟨r,q1,q2⟩:=jH G hw A a1 (RV a3 L) W;obtain⟨e',_,_,rfl⟩:=q2.ut;have c1:=gM G hw A y.gh.isEmpty W;have I:=bR (P:=P) g;have J:=eF (P:=P) (.map (y.gh.eraseIdxIfInBounds Q) y.clock) g;simp[sS,V,run_underlying N,I,J,c1,q1]
      .rw[<-q]at H g ⊢;obtain⟨uu,hg⟩:=Fw (bA g) (.map (y.gh.eraseIdxIfInBounds Q) y.clock);obtain⟨q1,q2⟩:=kg H C O (o:= .tZ es i true) (ob:= .map (y.gh.eraseIdxIfInBounds Q) y.clock) ⟨U,Q,en,a1,a2,a3,a4,a5,rfl⟩ uu hg (low:=s.low) (bi _) (.inr rfl) (fun _=>rfl);exact⟨ι,q2,q1,JM⟩
     .cases hd
    .cases hd
   .cases hd
  .cases hd
 .cases hd
theorem jy (ok:Ok P p){el:TypeId}(hb:isByte p el=true):∃ei,p.ty el=some ei/\ei.size=1/\P.underlying el=some (.int .u8)/\TF P el ei:=by
 unfold isByte at hb;split at hb
 .rename_i ei c;split at hb
  .rename_i d;exact⟨ei,c,aC hb,(ok.tf c).int d,ok.tf c⟩
  .cases hb
 .cases hb
theorem tL:∀{cs:List T} {us:List Value} {l:List UInt8},VL ι cs us->bytesOf cs=some l->us=l.map (fun b=>Value.int .u8 (b.toNat:Int))/\l.length=cs.length
 |[],us,l,hv,hb=>by
  simp only[bytesOf,Option.some.injEq]at hb;subst hb;simp only[VL]at hv;exact⟨hv,rfl⟩
 |c::cs,us,l,hv,hb=>by
  simp only[VL]at hv;obtain⟨v,q,rfl,j,A⟩:=hv;unfold bytesOf at hb;split at hb
  .rename_i d;cases d
  .rename_i n r d;cases d;split at hb
   .rename_i t g G;cases hb;obtain⟨B,C⟩:=tL A G;have g:=bX.1 g;simp only[VR,bL]at j;have:(UInt8.ofNat n).toNat=n:=by simp;omega
    simp[j,B,this,C]
   .cases hb
  .cases hb
theorem VA (H:Sim P ι s h)(hv:VR ι x v)(hd:NG s x=some (t,s')):BI P .unsafeSliceData ats ι s h t s' [v]:=by
 unfold NG at hd;split at hd
 .cases hd;simp only[VR]at hv;subst hv;exact gG (fun _ _ _=>rfl) fun ty W d=>⟨.pointer none,W,rfl,Eng.Rest.refl W,by rw[d];exact Post.pure H (by simp only[VR])⟩
 .rename_i b n;cases hd;simp only[VR]at hv;obtain⟨y,g,rfl,j⟩:=hv;exact gG (fun _ _ _=>rfl) fun ty W d=>⟨_,W,Lib.run_unsafeSliceData_row W ats ty _ _ _ (by omega),Eng.Rest.refl W,by rw[d];exact Post.pure H (by simp only[VR];exact⟨y,g,rfl⟩)⟩
 .rename_i b o n c;cases hd;simp only[VR]at hv;obtain⟨y,g,rfl⟩:=hv;exact gG (fun _ _ _=>rfl) fun ty W d=>⟨_,W,Lib.run_unsafeSliceData_row W ats ty _ _ _ (by omega),Eng.Rest.refl W,by rw[d];exact Post.pure H (by simp only[VR];exact⟨y,g,rfl⟩)⟩
 .cases hd
theorem Ak {w:World}{g k:Nat}{cur:Array Value}{ct:TypeId}{fr:Nat×Nat}(hg:w.heap[g]? =some (.cells cur ct fr))(hk:k≠0):
 ∃fr',(w.freeze ⟨g,0,none⟩ k).heap[g]? =some (.cells cur ct fr')/\Upd w.heap (w.freeze ⟨g,0,none⟩ k).heap g/\Eng.Rest w (w.freeze ⟨g,0,none⟩ k):=by
 obtain⟨j,d⟩:=fr;unfold World.freeze;rw[if_neg hk];exact⟨_,by simp only[lY,if_true,hg,Option.map_some];rfl,⟨by simp,fun b c=>by simp[lY,Ne.symm c]⟩,⟨rfl,rfl,rfl⟩⟩
theorem YT (ok:Ok P p)(H:Sim P ι s h){y:T}{w:Value}(hx:VR ι x v)(hy:VR ι y w)(hd:UO p s ats.toList x y=some (t,s')):BI P .unsafeString ats ι s h t s' [v,w]:=by
 unfold UO at hd;split at hd
 .rename_i L J c;have c:ats= #[L,J]:=bz.1 c;subst c;cases hd;simp only[VR]at hx hy;subst hx hy;exact gG (fun _ _ _=>rfl) fun ty W B=>⟨.string .empty,W,Lib.run_unsafeString_none W L J ty none,Eng.Rest.refl W,by rw[B];exact Post.pure H (by simp only[VR];rfl)⟩
 .rename_i L J b n c;have c:ats= #[L,J]:=bz.1 c;subst c;unfold TN at hd;split at hd
  .rename_i pi hpi;split at hd
   .rename_i el R;have hup:=(ok.tf hpi).ptr R;split at hd
    .rename_i cs ct tl hb;split at hd
     .rename_i l hc hl;cases hd;simp only[aF]at hc;obtain⟨⟨⟨c1,c2⟩,c3⟩,c4⟩:=hc;obtain rfl:=aC c1;obtain⟨ei,hei,hsz,hu8,te⟩:=jy ok c2;have c3:=aH.1 c3;have c4:=aH.1 c4;simp only[VR]at hx hy;obtain⟨yy,I,rfl⟩:=hx;obtain⟨g,N,U,G,htl⟩:=qZ H hb I;have C:=G.take (n+1);rw[lX,tT c3]at C;obtain⟨Q,V⟩:=tL C hl;have d:l.length=n+1:=by rw[V,kD];omega
      have O:P.cellsOf el=1:=by
       obtain⟨i,q,h2,_⟩:=te.info;simp[Program.cellsOf,q,h2,hsz]
      subst hy;have Z:l≠[]:=by rintro rfl;simp at d
      have hnn:(Int.ofNat (n+1))=(l.length:Int):=by rw[d];rfl
      rw[hnn];refine gG (fun _ _ _=>rfl) fun ty W B=>⟨.string ⟨l.toArray⟩,W.freeze ⟨yy.r,0,none⟩ l.length,?_,?_,?_⟩
      .subst B;refine Lib.run_unsafeString_row W L J ty el hup O yy.r g.size ?_ l Z (by omega) (by omega) fun j x hj=> ?_
       .unfold World.shape?;rw[N]
       .refine vF N (o:=0) ?_;have q:(l.map fun b=>Value.int .u8 (b.toNat:Int))[j]? =some (.int .u8 (x.toNat:Int)):=by simp[hj]
        rw[<-Q,eD]at q;split at q
        .simpa using q
        .cases q
      .subst B;exact(Ak N (by omega)).choose_spec.2.2
      .subst B;obtain⟨A,g1,g2,_⟩:=Ak N (k:=l.length) (by omega);obtain⟨q1,q2⟩:=kg H hb I (o:= .ro cs el) (ob:= .cells g el A) ⟨g,A,rfl,U,G⟩ g2 g1 (low:=dz s.low b) (by rw[iI];exact qm _ _) (.inl (by rw[iI];exact wV _ _)) (by simp[VO.am]);exact⟨ι,q2,q1,by simp only[VR]⟩
     .cases hd
    .cases hd
   .cases hd
  .cases hd
 .cases hd
theorem QP (ok:Ok P p)(re:RE ι m e er)(H:Sim P ι s h){b:Builtin}{xs:Array Operand}{vs:List T}(hvs:qE m e xs.toList=some vs)(hd:BO p s b ats.toList vs=some (t,s')):aI P (.call ⟨.builtin b,xs,ats⟩) ty er h (Post P ι s h t s'):=by
 have q:=vI re hvs;have one:∀{x},vs=[x]->∃v,VR ι x v/\(xs.map (ev er)).toList=[v]:=by
  intro x j;subst j;obtain⟨v,c,d⟩:=q.one;exact⟨v,d,by simpa using c⟩
 have two:∀{x y},vs=[x,y]->∃v w,VR ι x v/\VR ι y w/\(xs.map (ev er)).toList=[v,w]:=by
  intro x y j;subst j;obtain⟨v,w,c,d,g⟩:=q.two;exact⟨v,w,d,g,by simpa using c⟩
 unfold BO at hd;split at hd
 .obtain⟨v,c,d⟩:=one rfl;exact zBB ok H c hd _ _ _ d
 .obtain⟨v,c,d⟩:=one rfl;exact zAg ok H c hd _ _ _ d
 .obtain⟨v,c,d⟩:=one rfl;exact Uy ok H c hd _ _ _ d
 .obtain⟨v,w,c,d,g⟩:=two rfl;exact zBO H c d hd _ _ _ g
 .obtain⟨v,w,c,d,g⟩:=two rfl;exact zAT H c d hd _ _ _ g
 .obtain⟨v,w,c,d,g⟩:=two rfl;exact SQ ok H c d hd _ _ _ g
 .obtain⟨v,w,c,d,g⟩:=two rfl;exact Y1 ok H c d hd _ _ _ g
 .obtain⟨v,w,c,d,g⟩:=two rfl;exact SK ok H c d hd _ _ _ g
 .obtain⟨v,c,d⟩:=one rfl;exact VA H c hd _ _ _ d
 .obtain⟨v,w,c,d,g⟩:=two rfl;exact YT ok H c d hd _ _ _ g
 .cases hd
theorem s_call (ok:Ok P p)(re:RE ι m e er)(H:Sim P ι s h){c:Call}(hd:zU p m e s c=some (t,s')):aI P (.call c) ty er h (Post P ι s h t s'):=by
 obtain⟨j,xs,ats⟩:=c;unfold zU at hd;split at hd
 .rename_i b d;have d:j= .builtin b:=d;subst d;split at hd
  .rename_i q g;exact QP ok re H g hd
  .cases hd
 .cases hd
theorem gN (es:Array MapEntry)(i:Nat)(f:MapEntry->MapEntry):(es.modify i f).toList=es.toList.modify i f:=by
 apply List.ext_getElem?;intro j;simp[lY,List.getElem?_modify]
theorem Cy (ok:Ok P p)(H:Sim P ι s h){v:T}{xv kv vv:Value}(hx:VR ι x xv)(hk:VR ι k kv)(hv:VR ι v vv)(hd:SY p s u x k v=some s'):
 ∃h',Post P ι s h fB s' undef h'/\∀W:World,W.heap=h->(xI u xv kv vv).run P W= .ok () {W with heap:=h'}:=by
 unfold SY at hd;split at hd
 .rename_i ki vi b V;obtain⟨kt,vt,U,C,tv⟩:=o9 ok V;simp only[VR]at hx;obtain⟨y,Q,rfl⟩:=hx;split at hd
  .rename_i es c L;obtain⟨d,A,B,R⟩:=jN H L Q;split at hd
   .rename_i q;split at hd
    .rename_i j N;cases hd;refine⟨h.setIfInBounds y.r (.map (d.modify j fun e=>{e with key:=kv,val:=vv}) c),?_,fun W J=> ?_⟩
     .refine gW H L Q (o:= .map (wW (fun e=>(k,v,e.2.2)) es j) c) ⟨_,rfl,?_,jZ.mod (f:=fun e=>(k,v,e.2.2)) (fun _=>rfl) R⟩ uI;rw[gN];exact EL.mod (f:=fun e=>(k,v,e.2.2)) (g:=fun e=>{e with key:=kv,val:=vv}) (fun x e O=>⟨hk,hv,O.2.2⟩) B
     .subst J;obtain⟨r,q1,q2⟩:=jH C hk q B N W;obtain⟨e',q3,q4,rfl⟩:=q2.ut;have c1:=gM C hk q false W;have G:=bR (P:=P) A;have I:=eF (P:=P) (.map (d.modify j fun e=>{e with key:=kv,val:=vv}) c) A;have q5:d[j]? =some e':=by simpa using q3
      have Z:=xS (P:=P) hk q W;simp[xI,run_underlying U,G,c1,q1,q5,q4,Z,I]
    .rename_i N;cases hd;refine⟨h.setIfInBounds y.r (.map (d.push {key:=kv,val:=vv,born:=c}) (c+1)),?_,fun W J=> ?_⟩
     .refine gW H L Q (o:= .map (es++[(k,v,c)]) (c+1)) ⟨_,rfl,?_,R.push⟩ uI;rw[MF];exact B.append ⟨_,[],rfl,⟨hk,hv,rfl⟩,rfl⟩
     .subst J;obtain⟨r,q1,q2⟩:=jH C hk q B N W;have q2:r=none:=q2;subst q2;have c1:=gM C hk q false W;have G:=bR (P:=P) A;have I:=eF (P:=P) (.map (d.push {key:=kv,val:=vv,born:=c}) (c+1)) A;simp[xI,run_underlying U,G,c1,q1,I]
    .cases hd
   .cases hd
  .cases hd
 .cases hd
theorem JU (ok:Ok P p)(re:RE ι m e er)(H:Sim P ι s h){x k v:Operand}(hd:kH p m e s u x k v=some (t,s')):aI P (.mapUpdate u x k v) ty er h (Post P ι s h t s'):=by
 unfold kH at hd;split at hd
 .rename_i G A C r g q;split at hd
  .rename_i B j;cases hd;obtain⟨c,q1,q2⟩:=Cy ok H (ai re r) (ai re g) (ai re q) j;refine oM rfl c q1 fun W d=>⟨{W with heap:=c},?_,rfl,rfl,rfl,rfl⟩
   simp[execOp,q2 W d]
  .cases hd
 .cases hd
theorem FZ (ok:Ok P p)(H:Sim P ι s h){xv kv:Value}(hx:VR ι x xv)(hk:VR ι k kv)(hd:Ef p s u x k=some (t,s')):
 ∃v h',Post P ι s h t s' v h'/\∀W:World,W.heap=h->(IK u xv kv).run P W= .ok v {W with heap:=h'}:=by
 unfold Ef at hd;split at hd
 .rename_i ki vi b hm;obtain⟨kt,vt,V,J,tv⟩:=o9 ok hm;obtain⟨z,z1,Z⟩:=CV tv;simp only[VR]at hx;obtain⟨y,R,rfl⟩:=hx;split at hd
  .rename_i es c N;obtain⟨d,I,q,U⟩:=jN H N R;split at hd
   .rename_i A;split at hd
    .rename_i j Q;split at hd
     .rename_i en O;cases hd;obtain⟨e',C,G⟩:=q.get O;refine⟨.tuple #[e'.val,.int .i64 e'.born],h.setIfInBounds y.r (.map (d.modify j fun e=>{e with key:=kv}) c),?_,fun W L=> ?_⟩
      .refine gW H N R (o:= .map (wW (fun e=>(k,e.2.1,e.2.2)) es j) c) ⟨_,rfl,?_,jZ.mod (f:=fun e=>(k,e.2.1,e.2.2)) (fun _=>rfl) U⟩ ?_
       .rw[gN];exact EL.mod (f:=fun e=>(k,e.2.1,e.2.2)) (g:=fun e=>{e with key:=kv}) (fun x e B=>⟨hk,B.2.1,B.2.2⟩) q
       .simp only[VR];exact⟨_,rfl,by simp[VL,VR,G.2.1,G.2.2]⟩
      .subst L;obtain⟨r,q1,q2⟩:=jH J hk A q Q W;obtain⟨e'',q3,q4,rfl⟩:=q2.ut;rw[C]at q3;cases q3;have c1:=gM J hk A false W;have g3:=bR (P:=P) I;have g4:=eF (P:=P) (.map (d.modify j fun e=>{e with key:=kv}) c) I;have q5:d[j]? =some e':=by simpa using C
       have st:=xS (P:=P) hk A W;simp[IK,run_underlying V,g3,c1,q1,q5,q4,st,g4,goInt]
     .cases hd
    .rename_i Q;cases hd;refine⟨.tuple #[z,.int .i64 c],h.setIfInBounds y.r (.map (d.push {key:=kv,val:=z,born:=c}) (c+1)),?_,fun W L=> ?_⟩
     .refine gW H N R (o:= .map (es++[(k,vi.zero,c)]) (c+1)) ⟨_,rfl,?_,U.push⟩ ?_
      .rw[MF];exact q.append ⟨_,[],rfl,⟨hk,Z ι,rfl⟩,rfl⟩
      .simp only[VR];exact⟨_,rfl,by simp[VL,VR,Z ι]⟩
     .subst L;obtain⟨r,q1,q2⟩:=jH J hk A q Q W;have q2:r=none:=q2;subst q2;have c1:=gM J hk A false W;have C:=bR (P:=P) I;have G:=eF (P:=P) (.map (d.push {key:=kv,val:=z,born:=c}) (c+1)) I;simp[IK,run_underlying V,C,c1,q1,G,z1,goInt]
    .cases hd
   .cases hd
  .cases hd
 .cases hd
theorem Kz (ok:Ok P p)(re:RE ι m e er)(H:Sim P ι s h){x k:Operand}(hd:mR p m e s u x k=some (t,s')):aI P (.mapEntry u x k) ty er h (Post P ι s h t s'):=by
 unfold mR at hd;split at hd
 .rename_i r q j g;obtain⟨v,c,q1,q2⟩:=FZ ok H (ai re j) (ai re g) hd;refine az rfl v c q1 fun W d=>⟨{W with heap:=c},?_,rfl,rfl,rfl,rfl⟩
  simp[execOp,q2 W d]
 .cases hd
theorem RI {es:List Ent}:∀{l:List MapEntry} {w j:Nat},EL ι es l->Jm w es=some j->l.findIdx? (fun e=>(e.born:Int)==(w:Int))=some j:=by
 induction es with
 |nil=>intro l w j _ h;simp[Jm]at h
 |cons x es ih=>
  intro l w j A h;obtain⟨e,l,rfl,g,q⟩:=A.cons';simp only[Jm]at h;rw[List.findIdx?_cons];split at h
  .rename_i c;cases h;have:=aC c;rw[g.2.2]at this;simp[this]
  .rename_i c;split at h
   .rename_i i r;cases h;have d:((e.born:Int)==(w:Int))=false:=by
     rw[beq_eq_false_iff_ne];intro C;have:w=x.2.2:=by rw[g.2.2];omega
     rw[this]at c;have B:aX x.2.2 x.2.2=true:=lG _;rw[B]at c;cases c
    rw[d,ih q r];simp
   .cases h
theorem Gc (re:RE ι m e er)(H:Sim P ι s h){x k v:Operand}(hd:jf p m e s x k v=some (t,s')):aI P (.entryStore u x k v) ty er h (Post P ι s h t s'):=by
 unfold jf at hd;split at hd
 .rename_i xv kv I B G L;split at hd
  .rename_i s1 A;cases hd
   replace B:=ai re B
   replace G:=ai re G
   replace L:=ai re L
   unfold Ow at A;split at A
   .rename_i b q w;simp only[VR]at B G;obtain⟨y,R,B⟩:=B;split at A
    .rename_i es c Q;obtain⟨d,N,O,Z⟩:=jN H Q R;split at A
     .rename_i j hj;cases A;have hf:=RI O hj;have q1:Post P ι s h fB (gI s b (.map (wW (fun e=>(e.1,I,e.2.2)) es j) c)) undef (h.setIfInBounds y.r (.map (d.modify j fun e=>{e with val:=ev er v}) c)):=by
       refine gW H Q R (o:= .map (wW (fun e=>(e.1,I,e.2.2)) es j) c) ⟨_,rfl,?_,jZ.mod (f:=fun e=>(e.1,I,e.2.2)) (fun _=>rfl) Z⟩ uI;rw[gN];exact EL.mod (f:=fun e=>(e.1,I,e.2.2)) (g:=fun e=>{e with val:=ev er v}) (fun x e C=>⟨C.1,L,C.2.2⟩) O
      refine oM rfl _ q1 fun W hW=>⟨{W with heap:=h.setIfInBounds y.r (.map (d.modify j fun e=>{e with val:=ev er v}) c)},?_,rfl,rfl,rfl,rfl⟩
      subst hW;have U:=bR (P:=P) N;have V:=eF (P:=P) (.map (d.modify j fun e=>{e with val:=ev er v}) c) N;have J:d.findIdx? (fun e=>(e.born:Int)==(w:Int))=some j:=by
       have:∀(a:Array MapEntry) (f:MapEntry->Bool),a.findIdx? f=a.toList.findIdx? f:=fun a f=>by cases a;simp
       rw[this,hf]
      simp[execOp,Instr.entryStore,B,G,asInt,asIntOf,U,J,V]
     .cases A
    .cases A
   .cases A
  .cases hd
 .cases hd
end
end maps3
end Go.Run
namespace Go.Run
open Go Go.Eng
section maps4
variable {P:Program}{p:Pr}{ι:Io}{s s':S}{h:Heap}{m:Fm}{e:E}{er:Env}{ty:TypeId}{t:T}{K:Value->Heap->Prop}
section
variable {a b:TypeId}{es:List Ent}{l:List MapEntry}{x:Operand}
theorem EL.filter {f:Nat->Bool}(H:EL ι es l):EL ι (es.filter fun x=>f x.2.2) (l.filter fun e=>f e.born):=by
 induction es generalizing l with
 |nil=>have H:l=[]:=H;subst H;exact rfl
 |cons x es ih=>
  obtain⟨e,l,rfl,c,d⟩:=H.cons';have g:x.2.2=e.born:=c.2.2;simp only[List.filter_cons,g];split
  .exact⟨e,_,rfl,c,ih d⟩
  .exact ih d
theorem EL.mem (H:EL ι es l){e:MapEntry}(he:e∈l):∃x∈es,ER ι x e:=by
 induction es generalizing l with
 |nil=>have H:l=[]:=H;subst H;cases he
 |cons x es ih=>
  obtain⟨e',l,rfl,c,d⟩:=H.cons';rcases bP.1 he with rfl|he
  .exact⟨x,by simp,c⟩
  .obtain⟨y,g,j⟩:=ih d he;exact⟨y,by simp[g],j⟩
theorem VL.mk2 {a b:T}{u v:Value}(h1:VR ι a u)(h2:VR ι b v):VL ι [a,b] [u,v]:=by
 simp only[VL];exact⟨_,_,rfl,h1,_,_,rfl,h2,rfl⟩
theorem VL.mk3 {a b c:T}{u v w:Value}(h1:VR ι a u)(h2:VR ι b v)(h3:VR ι c w):VL ι [a,b,c] [u,v,w]:=by
 simp only[VL];exact⟨_,_,rfl,h1,_,_,rfl,h2,_,_,rfl,h3,rfl⟩
theorem seen_eq (seen:List Nat)(w:Nat):seen.toArray.contains w=seen.any fun b=>aX b w:=by
 rw[List.contains_toArray,Bool.eq_iff_iff,List.contains_iff_mem,List.any_eq_true];constructor
 .intro h;exact⟨w,h,lG w⟩
 .rintro⟨b,c,d⟩;rw[aC d]at c;exact c
theorem lL {c:Nat}(hl:EL ι es l)(hb:jZ es c):(l.map (·.born)).Nodup:=by
 have:l.map (·.born)=es.map (·.2.2):=by
  clear hb;induction es generalizing l with
  |nil=>have hl:l=[]:=hl;subst hl;rfl
  |cons x es ih=>obtain⟨e,l,rfl,d,g⟩:=hl.cons';simp[ih g,d.2.2]
 rw[this];exact hb.1.imp (fun h=>Nat.ne_of_lt h)
theorem WE {ents:Array MapEntry}(hl:EL ι es ents.toList)(seen:List Nat):EL ι (es.filter fun e=> !(seen.any fun b=>aX b e.2.2)) (leftOf ents seen.toArray).toList:=by
 unfold leftOf;rw[Array.toList_filter];have:(fun e:MapEntry=> !seen.toArray.contains e.born)=fun e=>(fun w=> !(seen.any fun b=>aX b w)) e.born:=by
  funext e;rw[seen_eq]
 rw[this];exact hl.filter (f:=fun w=> !(seen.any fun b=>aX b w))
theorem Iy (H:Sim P ι s h){r mp since last:Nat}{seen:List Nat}(hr:s.at r=some (.iU mp since seen last)){y:Inf}(hy:ι r=some y):∃x,ι mp=some x/\h[y.r]? =some (.mapIter (some x.r) since seen.toArray last):=by
 obtain⟨A,q,c,d,g⟩:=H.obj r _ hr;rw[hy]at c;cases c;obtain⟨x,j,rfl⟩:=g;exact⟨x,j,d⟩
theorem Kv (re:RE ι m e er)(H:Sim P ι s h){r mp since last:Nat}{seen:List Nat}(hx:opd m e x=some (.ptr r 0))(hr:s.at r=some (.iU mp since seen last))(hd:Dl s (.ptr r 0) false=some (t,s')):
 aI P (.next x false) ty er h (Post P ι s h t s'):=by
 replace hx:=ai re hx
 simp only[VR]at hx;obtain⟨y,hy,hx⟩:=hx;obtain⟨z,hz,I⟩:=Iy H hr hy;simp only[Dl,hr]at hd;split at hd
 .rename_i es c hb;obtain⟨d,U,V,h3⟩:=jN H hb hz;split at hd
  .rename_i Q;simp only[aF]at Q;have L:=aH.1 Q.1;have j:∀x∈d.toList,x.born<since:=by
    intro e A;obtain⟨q,h4,h5⟩:=V.mem A;have:=bJ.1 Q.2 q h4;have:=bX.1 this;have Z:q.2.2=e.born:=h5.2.2;omega
   have g:=WE V seen;split at hd
   .rename_i R;cases hd;rw[R]at g;have g:(leftOf d seen.toArray).toList=[]:=g;refine az rfl (.tuple #[.bool false]) h (Post.pure H (by simp only[VR];exact⟨_,rfl,by simp[VL,VR]⟩)) fun W O=> ?_
    subst O;rcases run_next_at (P:=P) W ty y.r z.r since last seen.toArray d c I U j L with⟨_,q2⟩|⟨e,A,_⟩
    .exact⟨W,by simp[execOp,hx,q2],rfl,Eng.Rest.refl W⟩
    .rw[g]at A;cases A
   .rename_i G R;cases hd;rw[R]at g;obtain⟨C,l0,q0,q1,q2⟩:=g.cons';have q2:l0=[]:=q2;subst q2;have B:Post P ι s h (.tup [.bool true,G.1,G.2.1]) (gI s r (.iU mp since (seen++[G.2.2]) c)) (.tuple #[.bool true,C.key,C.val]) (h.setIfInBounds y.r (.mapIter (some z.r) since (seen.toArray.push C.born) c)):=by
     refine gW H hr hy (o:= .iU mp since (seen++[G.2.2]) c) ⟨z,hz,?_⟩ ?_
     .have Z:G.2.2=C.born:=q1.2.2;rw[Z];simp
     .simp only[VR];exact⟨_,rfl,VL.mk3 (by simp only[VR]) q1.1 q1.2.1⟩
    refine az rfl _ _ B fun W O=> ?_
    subst O;rcases run_next_at (P:=P) W ty y.r z.r since last seen.toArray d c I U j L with⟨q3,_⟩|⟨e,A,w1,N,J⟩
    .rw[<-dC,q0]at q3;cases q3
    .rw[q0]at A;obtain rfl:e=C:=by simpa using A
     refine⟨ChangeMaps.setBlock w1 y.r (.mapIter (some z.r) since (seen.toArray.push e.born) c),by simp only[execOp,hx,aY,J,aN,bE],?_,?_⟩
     .rcases N with rfl|rfl<;>rfl
     .rcases N with rfl|rfl<;>exact⟨rfl,rfl,rfl⟩
   .cases hd
  .cases hd
 .cases hd
theorem Yl (re:RE ι m e er)(H:Sim P ι s h){b:Bool}(hd:zh p m e s x b=some (t,s')):aI P (.next x b) ty er h (Post P ι s h t s'):=by
 unfold zh at hd;split at hd
 .rename_i G j;have c:=hd;unfold Dl at hd;split at hd
  .rename_i r;split at hd
   .rename_i a B d;exact NC re H j d c
   .rename_i C g A q d;exact Kv re H j d c
   .cases hd
  .cases hd
 .cases hd
theorem xy {a:Array Nat}{w:Nat}(h:a.back? =some w):∃b:Array Nat,a=b.push w:=by
 have d:a.size≠0:=by
  intro d;have:a= #[]:=Array.eq_empty_of_size_eq_zero d;subst this;simp at h
 obtain⟨b,c,rfl⟩:=Array.eq_push_of_size_ne_zero d;simp only[Array.back?_push,Option.some.injEq]at h;exact⟨b,by rw[h]⟩
theorem QU (H:Sim P ι s h){x:T}{xv:Value}(hx:VR ι x xv)(hd:LD s x=some t):∃v,VR ι t v/\∀W:World,W.heap=h->(Instr.entry xv).run P W= .ok v W:=by
 unfold LD at hd;split at hd
 .rename_i r;simp only[VR]at hx;obtain⟨y,hy,rfl⟩:=hx;split at hd
  .rename_i mp hr;obtain⟨y',ob,N,I,R⟩:=H.obj r _ hr;rw[hy]at N;cases N;obtain⟨z,d,L,hz,rfl,hbk⟩:=R;split at hd
   .rename_i es j Z;split at hd
    .rename_i en hen;cases hd;obtain⟨z',ob,h4,h5,U⟩:=H.obj mp _ Z;rw[hz]at h4;cases h4;obtain⟨es',j',g,a1,a2,a3,a4,a5,rfl⟩:=U;simp only[eB,if_false]at h5;obtain⟨⟨w,b1,b2⟩,_⟩:=a3;rw[hen]at b1;cases b1;obtain⟨e1,c1,c2⟩:=a1.get b2;have a4':z.gh.toList[j']? =some g:=by simpa using a4
     rw[a4']at c1;cases c1;obtain⟨C,B⟩:=xy hbk;subst B;rw[<-a5]at I;refine⟨.tuple #[g.key,g.val],?_,fun W V=> ?_⟩
     .simp only[VR];exact⟨_,rfl,VL.mk2 c2.1 c2.2.1⟩
     .subst V;exact run_entry_at W y.r z.r d C z.gh z.clock g I h5 (bQ a4') (lL a1 a2)
    .cases hd
   .cases hd
  .rename_i mp d w Q hr;obtain⟨y',ob,g1,g2,g3⟩:=H.obj r _ hr;rw[hy]at g1;cases g1;obtain⟨z,arr,hz,rfl,hbk⟩:=g3;split at hd
   .rename_i es G Z;split at hd
    .rename_i A;split at hd
     .rename_i en O;cases hd;obtain rfl:=aC A;obtain⟨q,N,I,R⟩:=jN H Z hz;have hm:=ww O;have J:=FL O;have J:=aC J;obtain⟨j,hj⟩:=dL hm;obtain⟨g,c1,c2⟩:=I.get hj;have U:en.2.2=g.born:=c2.2.2;obtain⟨C,B⟩:=xy hbk;subst B;rw[<-J,U]at g2;refine⟨.tuple #[g.key,g.val],?_,fun W V=> ?_⟩
      .simp only[VR];exact⟨_,rfl,VL.mk2 c2.1 c2.2.1⟩
      .subst V;exact run_entry_at W y.r z.r d C q _ g g2 N (bQ c1) (lL I R)
     .cases hd
    .cases hd
   .cases hd
  .rename_i mp d L Q hr;obtain⟨y',ob,g1,g2,g3⟩:=H.obj r _ hr;rw[hy]at g1;cases g1;obtain⟨z,arr,c,hz,rfl,hso,hsc,hcl'⟩:=g3;split at hd
   .rename_i es G w Z hl;split at hd
    .rename_i A;simp only[aF]at A;split at hd
     .rename_i en O;cases hd;obtain rfl:=aC A.1;obtain rfl:=hcl' (aH.1 A.2.2);obtain⟨q,N,I,R⟩:=jN H Z hz;have hm:=ww O;have J:=FL O;have J:=aC J;obtain⟨j,hj⟩:=dL hm;obtain⟨g,c1,c2⟩:=I.get hj;have U:en.2.2=g.born:=c2.2.2;obtain⟨C,B⟩:=xy (hso.2 _ hl (bX.1 A.2.1));subst B;rw[<-J,U]at g2;refine⟨.tuple #[g.key,g.val],?_,fun W V=> ?_⟩
      .simp only[VR];exact⟨_,rfl,VL.mk2 c2.1 c2.2.1⟩
      .subst V;exact run_entry_at W y.r z.r d C q _ g g2 N (bQ c1) (lL I R)
     .cases hd
    .cases hd
   .cases hd
  .rename_i mp d L Q hr;obtain⟨z,hz,hit⟩:=Iy H hr hy;split at hd
   .rename_i es G w Z hl;split at hd
    .rename_i A;split at hd
     .rename_i en O;cases hd;obtain rfl:=aC A;obtain⟨q,N,I,R⟩:=jN H Z hz;obtain⟨C,B⟩:∃C,L=C++[w]:=by
       obtain⟨C,hh⟩:=List.getLast?_eq_some_iff.1 hl;exact⟨C,hh⟩
      subst B;have hm:=ww O;have J:=FL O;have J:=aC J;obtain⟨j,hj⟩:=dL hm;obtain⟨g,c1,c2⟩:=I.get hj;have U:en.2.2=g.born:=c2.2.2;have e2:(C++[w]).toArray=C.toArray.push g.born:=by rw[<-U,J];simp
      rw[e2]at hit;refine⟨.tuple #[g.key,g.val],?_,fun W V=> ?_⟩
      .simp only[VR];exact⟨_,rfl,VL.mk2 c2.1 c2.2.1⟩
      .subst V;exact run_entry_at W y.r z.r d C.toArray q _ g hit N (bQ c1) (lL I R)
     .cases hd
    .cases hd
   .cases hd
  .cases hd
 .cases hd
theorem Ot (re:RE ι m e er)(H:Sim P ι s h)(hd:nM p m e s x=some (t,s')):aI P (.entry x) ty er h (Post P ι s h t s'):=by
 unfold nM at hd;split at hd
 .rename_i j g;obtain⟨c,rfl⟩:=fD hd;obtain⟨v,q1,q2⟩:=QU H (ai re g) c;refine aK rfl v (Post.pure H q1) fun W d=> ?_
  simp[execOp,q2 W d]
 .cases hd
theorem rC {o:Op}{K:Value->Heap->Prop}(hn:iX o=true)(H:∀W:World,W.heap=h->∃v W',(execOp (ev er) {dst:=none,op:=o,type:=ty,pos:= "",after:= #[],guard:=none}).run P W= .ok (.value v) W'/\Eng.Rest W W'/\K v W'.heap):aI P o ty er h K:=by
 unfold aI;refine And.intro hn fun W j=> ?_
 obtain⟨v,W',c,d,g⟩:=H W j;rw[c];exact⟨g,d⟩
theorem LQ (n:Nat)(hn:n<128):Utf8.encode (n:Int)=⟨⟨[UInt8.ofNat n]⟩⟩:=by
 have c:Utf8.valid (n:Int)=true:=by simp[Utf8.valid];omega
 simp[Utf8.encode,c,hn]
theorem Eg (ok:Ok P p)(H:Sim P ι s h){el:TypeId}{l:List UInt8}(hs:P.underlying a=some .string)(hd2:P.underlying b=some (.slice el))(hx:ev er x= .string ⟨⟨l⟩⟩)(hd:Ab p s el l=some (t,s')):aI P (.convert a b x) ty er h (Post P ι s h t s'):=by
 unfold Ab at hd;split at hd
 .rename_i A;cases hd;obtain⟨ei,B,I,q,J⟩:=jy ok A;refine rC rfl fun W r=>⟨.slice (some ⟨W.heap.size,0,none⟩) (xe ⟨l⟩).size (grownCap W (xe ⟨l⟩).size 0 el),W.drew.alloc (.cells (bytesRow ⟨⟨l⟩⟩ (grownCap W (xe ⟨l⟩).size 0 el)) el ((bytesRow ⟨⟨l⟩⟩ (grownCap W (xe ⟨l⟩).size 0 el)).size,(bytesRow ⟨⟨l⟩⟩ (grownCap W (xe ⟨l⟩).size 0 el)).size+1)),?_,⟨rfl,rfl,rfl⟩,?_⟩
  .have:=run_bytes_of_string (P:=P) W a b el ⟨⟨l⟩⟩ hs hd2 q;simp only[execOp,hx,aY,this,aN];rfl
  .subst r;have G:=H.pI (bi s.nx);obtain⟨c,d⟩:∃c,c=grownCap W (xe ⟨l⟩).size 0 el:=⟨_,rfl⟩;rw[<-d];have j:l.length<=c:=by
    have:=grownCap_ge W (xe ⟨l⟩).size 0 el;rw[<-d]at this;exact this
   have g:(bytesRow ⟨⟨l⟩⟩ c).toList.take l.length=l.map fun b=>Value.int .u8 (b.toNat:Int):=by
    simp[bytesRow]
   have:=jQ H (o:= .ro (kT l) el) (ob:= .cells (bytesRow ⟨⟨l⟩⟩ c) el ((bytesRow ⟨⟨l⟩⟩ c).size,(bytesRow ⟨⟨l⟩⟩ c).size+1)) (x:=⟨W.heap.size,c,#[],0,0⟩) rfl
    ⟨_,_,rfl,by simp[kT,bytesRow],by
     have C:(kT l).length=l.length:=by simp[kT]
     rw[C,g];exact BK l⟩
   refine⟨_,this.2,this.1,?_⟩;simp only[VR];exact⟨_,c,Io.dm,rfl,j⟩
 .cases hd
theorem Ev (ok:Ok P p)(H:Sim P ι s h){el:TypeId}{xt:T}(hs:P.underlying a=some (.slice el))(hd2:P.underlying b=some .string)(hx:VR ι xt (ev er x))(hd:Ah p s el xt=some (t,s')):aI P (.convert a b x) ty er h (Post P ι s h t s'):=by
 unfold Ah at hd;split at hd
 .rename_i cs n U J hn;split at hd
  .rename_i l V;cases hd;obtain⟨ei,N,r,Q,te⟩:=jy ok U;obtain⟨os,o1,o2,B,c,A,o3,_⟩:=p8 ok H N hx J hn;obtain⟨d,O⟩:=tL o1 V;have Z:l.length=n:=by rw[O,o2,r,zn]
   refine aK rfl (.string ⟨⟨l⟩⟩) (Post.pure H (by simp only[VR])) fun W R=> ?_
   have g:=o3 W R;rw[A,r]at g;have j:(Conv.bytesToString (.slice B n c)).run P W= .ok (.string ⟨⟨l⟩⟩) W:=by
    cases B with
    |none=>
     have C:(bS 1 n (.slice none n c)).run P W= .ok #[] W:=rfl;rw[C]at g;have G:os=[]:=by
      have:=(Result.ok.inj g).1;have I:=congrArg Array.toList this;simpa using I.symm
     have I:l=[]:=by
      rw[G]at d;simpa using d.symm
     subst I;rfl
    |some q=>
     have C:(bS 1 n (.slice (some q) n c)).run P W=(loadCells q (n*1)).run P W:=rfl;rw[C,zn,d]at g;have G:(loadCells q n).run P W= .ok ((l.map (fun b=>(b.toNat:Int))).map (Value.int .u8)).toArray W:=by rw[g];simp
     rw[run_bytesToString W q n c _ G,foldl_push_byteCells];have L:ByteArray.empty.data= #[]:=rfl;rw[L];simp
   simp only[execOp,A,aY,run_convert_bytes_string W a b el B n c hs Q hd2,j,aN];rfl
  .cases hd
 .cases hd
theorem Qi (ok:Ok P p)(re:RE ι m e er)(H:Sim P ι s h)(hd:oG p m e s a b x=some (t,s')):aI P (.convert a b x) ty er h (Post P ι s h t s'):=by
 unfold oG at hd;split at hd
 .rename_i xv c
  replace c:=ai re c
  unfold XC at hd;split at hd
  .rename_i si V g d;split at hd
   .rename_i q k N n j A;split at hd
    .rename_i v G;cases hd;obtain⟨C,rfl⟩:=fu G;simp only[VR]at c;refine aM ?_;rw[Ae,c,(ok.tf g).int j,(ok.tf d).int A,Fp];exact⟨C,Post.pure H (by simp only[VR])⟩
    .cases hd
   .rename_i q k N m r lo Z j A;split at hd
    .rename_i v w G U;cases hd;have C:=(fu G).1;have R:=(fu U).1;simp only[VR]at c;obtain⟨z,c,Q,J,L⟩:=c;refine aM ?_;rw[Ae,c,(ok.tf g).int j,(ok.tf d).int A,Fp];exact⟨Gb C R J L,Post.pure H (by simp only[VR];exact⟨z,rfl,Q,J,L⟩)⟩
    .cases hd
   .rename_i O j A;cases hd;have I:=c;simp only[VR]at c;refine aK rfl (ev er x) (Post.pure H I) fun W _=> ?_
    simp[execOp,convert,run_underlying ((ok.tf g).string j),run_underlying ((ok.tf d).string A),c]
   .rename_i el O j A;simp only[VR]at c;exact Eg ok H ((ok.tf g).string j) ((ok.tf d).slice A) c hd
   .rename_i el j A;exact Ev ok H ((ok.tf g).slice j) ((ok.tf d).string A) c hd
   .rename_i q N n j A;split at hd
    .rename_i B;cases hd;have B:=bX.1 B;simp only[VR,bL]at c;have:=LQ n B;refine aK rfl (.string ⟨⟨[UInt8.ofNat n]⟩⟩) (Post.pure H (by simp only[VR])) fun W _=> ?_
     simp[execOp,convert,run_underlying ((ok.tf g).int j),run_underlying ((ok.tf d).string A),c,Conv.intToString,this]
    .cases hd
   .cases hd
  .cases hd
 .cases hd
theorem U3 (ok:Ok P p)(re:RE ι m e er)(H:Sim P ι s h){o:Op}(hd:gQ p m o e s=some (t,s')):aI P o ty er h (Post P ι s h t s'):=by
 unfold gQ at hd;split at hd
 .exact YJ re H hd
 .exact Si re H hd
 .exact ZK re H hd
 .exact Uz ok H hd
 .exact zAx re H hd
 .exact V5 ok re H hd
 .exact GU ok re H hd
 .exact UC ok re H hd
 .exact Ve ok re H hd
 .exact NB re H hd
 .exact Vk ok re H hd
 .exact zBu re H hd
 .exact Qi ok re H hd
 .exact LU re H hd
 .exact Pk H hd
 .exact Ja ok re H hd
 .exact Vz ok re H hd
 .exact Jg ok re H hd
 .exact VH ok re H hd
 .exact Jt ok re H hd
 .exact Wm ok re H hd
 .exact JO ok re H hd
 .exact JU ok re H hd
 .exact WI ok re H hd
 .exact Yl re H hd
 .exact Qe re H hd
 .exact Ot re H hd
 .exact Kz ok re H hd
 .exact Gc re H hd
 .exact s_call ok re H hd
 .cases hd
end
end maps4
end Go.Run
namespace Go.Run
open Go Go.Eng
section code
variable {P:Program}{p:Pr}{ι:Io}{s s':S}{h:Heap}{m:Fm}{e e':E}{er:Env}{ty:TypeId}{t:T}{K:Value->Heap->Prop}{cf:fG}
noncomputable def JA (P:Program)(v:Value)(vs:List Value)(h:Heap)(K:Value->Heap->Prop):Prop:=
 ∀(er:Env) (f:Operand) (xs:Array Operand) (ats:Array TypeId) (ty:TypeId),ev er f=v->(xs.map (ev er)).toList=vs->aI P (.call ⟨.value f,xs,ats⟩) ty er h K
noncomputable def iN (P:Program)(cf:fG):Prop:=
 ∀f args s t s',cf f args s= .ok (t,s')->∀ι h v vs,VR ι f v->VL ι args vs->Sim P ι s h->JA P v vs h (Post P ι s h t s')
theorem yU {o:Op}{f:Operand}{xs:List Operand}(hc:MP o=some (f,xs)):∃as ats,o= .call ⟨.value f,as,ats⟩/\xs=as.toList:=by
 unfold MP at hc;split at hc
 .rename_i c;obtain⟨j,as,ats⟩:=c;split at hc
  .rename_i g d;cases hc;have d:j= .value f:=d;subst d;exact⟨as,ats,rfl,rfl⟩
  .cases hc
 .cases hc
theorem Cc (ok:Ok P p)(hcf:iN P cf){o:Op}{pos:String}(hd:oper p m cf o pos e s= .ok (t,s'))(re:RE ι m e er)(H:Sim P ι s h):aI P o ty er h (Post P ι s h t s'):=by
 unfold oper at hd;split at hd
 .rename_i f xs q;obtain⟨j,ats,rfl,rfl⟩:=yU q;unfold Mg at hd;split at hd
  .rename_i g B A d;split at hd
   .rename_i r c;cases hd;exact hcf _ _ _ _ _ c ι h _ _ (ai re A) (vI re d) H er f j ats ty rfl (by simp)
   .cases hd
  .cases hd
 .unfold FO at hd;split at hd
  .rename_i r c;cases hd;exact U3 ok re H c
  .cases hd
noncomputable def uM (m:Fm)(e:E)(d:Option Tmp)(v:T):E:=match d with|none=>e|some t=>En.set (Pa.of m.dp t) v e
theorem RE.set (re:RE ι m e er){q:Nat}(hq:q<m.n){v:T}{vv:Value}(hv:VR ι v vv):RE ι m (En.set (Pa.of m.dp q) v e) (er.set q vv):=by
 refine⟨by simp[re.len],re.fit,fun i g=> ?_⟩;have d:=re.fit;rw[En.bT (by omega) (by omega)];split
 .rename_i c;subst c;have:i<er.length:=by rw[re.len];exact g
  simpa[rT,this]using hv
 .rename_i c;have:=re.get i g;have j:(er.set q vv).getD i undef=er.getD i undef:=by
   simp only[rT];rw[List.getElem?_set_ne (fun h=>c h.symm)]
  rw[j];exact this
theorem kZ {d:Option Tmp}{v:T}{pos:String}{k:E->S->Res (E×S)}{r:E×S}(hp:qP m e d v pos s k= .ok r):(∀q,d=some q->q<m.n)/\k (uM m e d v) s= .ok r:=by
 unfold qP at hp;split at hp
 .exact⟨fun q c=>(by cases c),hp⟩
 .rename_i q;rw[aJ]at hp;split at hp
  .rename_i c;rw[force_eq,En.aV]at hp;exact⟨fun j g=>by cases g;exact aH.1 c,hp⟩
  .cases hp
theorem RE.put (re:RE ι m e er){d:Option Tmp}(hd:∀q,d=some q->q<m.n){v:T}{vv:Value}(hv:VR ι v vv):RE ι m (uM m e d v) (aU er d vv):=by
 cases d with
 |none=>exact re
 |some q=>exact re.set (hd q rfl) hv
theorem qR (re:RE ι m e er){all:List Oper}{o:Oper}{b:Bool}(hw:wants m all o.guard e=some b):Region.wanted o (yielded all.toArray er.toArray)=b:=by
 unfold wants at hw;unfold Region.wanted;split at hw
 .rename_i r;cases hw;rw[r]
 .rename_i j d r;rw[r];simp only[ve];split at hw
  .rename_i B;cases hw;rw[B];rfl
  .rename_i q B;rw[B];have c:=iY re q;have C:∀v:Value,er.getD q undef=v->v≠undef->er[q]? =some v:=by
    intro v c A;simp only[rT]at c;cases hq:er[q]? with
    |none=>rw[hq]at c;exact absurd c.symm A
    |some x=>rw[hq]at c;rw[<-c];rfl
   split at hw
   .rename_i G g;cases hw;rw[g]at c;simp only[VR]at c;have:=C _ c (by simp[undef]);simp only[this];cases G<;>cases d<;>rfl
   .rename_i g;cases hw;rw[g]at c;simp only[VR]at c;obtain⟨I,c,_⟩:=c;have:∀x,er[q]? =some x->x= .tuple I:=by
     intro x H;simp only[rT,H,Option.getD_some]at c;exact c
    cases hq:er[q]? with
    |none=>simp only[hq];rfl
    |some x=>rw[this x hq]at hq;simp only[hq];rfl
   .cases hw
theorem JH {all:List Oper}{o:Oper}{ops:List Oper}:xL p m cf all (o::ops) e s=SV p m cf all o (xL p m cf all ops) e s:=rfl
theorem qd (ok:Ok P p)(hcf:iN P cf){all:List Oper}{l:Option Nat}{ef:E}{sf:S}:∀(ops:List Oper) (e:E) (s:S),xL p m cf all ops e s= .ok (ef,sf)->∀{ι:Io} {er:Env} {h:Heap} {d:List Deferred} {w w0:World}
 {Q:Exit->Act->World->Prop},RE ι m e er->Sim P ι s h->w.heap=h->Eng.Rest w0 w->
 (∀a w',a.defers=d->Eng.Rest w0 w'->(∃ι',Ste ι s h ι' sf w'.heap/\Sim P ι' sf w'.heap/\RE ι' m ef a.tmps.toList)->Q .normal a w')->
 wpListIn (fen l) 0 P all.toArray Q ops ⟨er.toArray,d⟩ w
 |[],e,s,g,ι,er,h,d,w,w0,Q,re,H,hw,hrest,hQ=>by
  have g:(Res.ok (e,s):Res (E×S))= .ok (ef,sf):=g;cases g;subst hw;simp only[wpListIn];exact hQ _ _ rfl hrest ⟨ι,Ste.refl ..,H,by simpa using re⟩
 |o::rest,e,s,g,ι,er,h,d,w,w0,Q,re,H,hw,hrest,hQ=>by
  rw[JH]at g;unfold SV at g;unfold wpListIn;split at g
  .rename_i c;have c:=qR re c;simp only[c,if_true];split at g
   .rename_i v U r;obtain⟨j,q⟩:=kZ g;refine iW ?_;rw[hw];refine bH ?_ (Cc ok hcf r re H);rintro V R ⟨ι',q1,q2,q3⟩ w' B A;refine qd ok hcf rest _ _ q ((re.mono q1.sub).put j q3) q2 B (hrest.trans A) ?_;rintro a O G N ⟨C,I,J,L⟩;exact hQ _ _ G N ⟨C,q1.trans H.fresh I,J,L⟩
   .cases g
  .rename_i c;have c:=qR re c;simp only[c,eB,if_false];obtain⟨j,q⟩:=kZ g;refine⟨fun _ _=>trivial,?_⟩;rw[ay];exact qd ok hcf rest _ _ q (re.put j uI) H hw hrest hQ
  .cases g
end code
end Go.Run
namespace Go.Run
open Go Go.Eng
section congr
variable {P:Program}{p:Pr}{ι:Io}{s s':S}{h:Heap}{m:Fm}{e e':E}{er:Env}{ty:TypeId}{t:T}{K:Value->Heap->Prop}{cf:fG}
section
variable {a b:T}{o:Op}{xs:List Operand}
theorem Ac {q:Tmp}(h:Operand.tmp q∈xs):q∈ma xs:=by
 induction xs with
 |nil=>cases h
 |cons x xs ih=>
  rcases bP.1 h with c|c
  .subst c;simp[ma]
  .cases x<;>simp[ma,ih c]
noncomputable def Agree (m:Fm)(e e':E)(xs:List Operand):Prop:=∀q∈ma xs,bu m e q=bu m e' q
theorem Agree.opd (H:Agree m e e' xs){x:Operand}(hx:x∈xs):opd m e x=opd m e' x:=by
 cases x with
 |tmp q=>simp only[Run.opd,H q (Ac hx)]
 |_=>rfl
theorem Agree.sub {ys:List Operand}(H:Agree m e e' xs)(hs:∀y∈ys,y∈xs):Agree m e e' ys:=by
 intro q c;have:Operand.tmp q∈ys:=by
  clear H hs;induction ys with
  |nil=>cases c
  |cons y ys ih=>
   cases y<;>simp only[ma,bP]at c<;>first
    |(rcases c with rfl|c
      .simp
      .simp[ih c])
    |simp[ih c]
 exact H q (Ac (hs _ this))
theorem Agree.qE (H:Agree m e e' xs):qE m e xs=qE m e' xs:=by
 induction xs with
 |nil=>rfl
 |cons x xs ih=>
  simp only[Run.qE,H.opd (by simp:x∈x::xs),ih (H.sub fun y c=>by simp[c])]
theorem Agree.parts {xs:List (Nat×Operand)}(H:Agree m e e' (xs.map (·.2))):oZ m e xs=oZ m e' xs:=by
 induction xs with
 |nil=>rfl
 |cons x xs ih=>
  obtain⟨i,x⟩:=x;simp only[oZ,H.opd (by simp:x∈((i,x)::xs).map (·.2)),ih (H.sub fun y c=>by simp at c ⊢;exact .inr c)]
theorem Agree.wL (H:Agree m e e' xs){x:Option Operand}(hx:∀y,x=some y->y∈xs):wL m e x=wL m e' x:=by
 cases x with
 |none=>rfl
 |some x=>simp only[Run.wL,H.opd (hx x rfl)]
theorem oC (H:Agree m e e' (opsOf o)):gQ p m o e s=gQ p m o e' s:=by
 have g:∀x∈opsOf o,opd m e x=opd m e' x:=fun x j=>H.opd j
 cases o<;>first
  |rfl
  |(simp only[opsOf,bP,bK,or_false,forall_eq_or_imp,forall_eq]at g
    simp only[gQ,GX,yH,AJ,tJ,rQ,uX,mQ,uw,oG,gH,kK,vw,jw,vG,kW,kH,vB,zh,oQ,nM,mR,jf,g];done)
  |skip
 case build u ps=>simp only[gQ,vX,Agree.parts (xs:=ps.toList) H]
 case buildSlice u n ps=>simp only[gQ,fO,Agree.parts (xs:=ps.toList) H]
 case unOp u t x=>
  simp only[opsOf,bP,bK,or_false,forall_eq]at g;simp only[gQ,Na,GZ,Ep,g]
 case makeFunc fn a b=>
  simp only[gQ,mP,Agree.qE (xs:=a.toList) (H.sub fun y d=>by simp[opsOf,d]),Agree.qE (xs:=b.toList) (H.sub fun y d=>by simp[opsOf,d])]
 case slice u x lo hi mx=>
  simp only[gQ,ul,g x (by simp[opsOf]),H.wL (x:=lo) (fun y d=>by simp[opsOf,d]),H.wL (x:=hi) (fun y d=>by simp[opsOf,d]),H.wL (x:=mx) (fun y d=>by simp[opsOf,d])]
 case call c=>
  simp only[gQ,zU,Agree.qE (xs:=c.args.toList) (H.sub fun y d=>by simp only[opsOf,sW];exact .inr d)]
theorem NS {pos:String}(H:Agree m e e' (opsOf o)):oper p m cf o pos e s=oper p m cf o pos e' s:=by
 unfold oper;split
 .rename_i f xs c;obtain⟨g,ats,rfl,rfl⟩:=yU c;unfold Mg;rw[H.opd (by simp[opsOf]:f∈_),Agree.qE (H.sub fun y d=>by simp only[opsOf,sW];exact .inr d)]
 .unfold FO;rw[oC H]
theorem JV {all:List Oper}{o:Oper}(H:∀q∈looks all o,bu m e q=bu m e' q):wants m all o.guard e=wants m all o.guard e':=by
 unfold wants;cases hg:o.guard with
 |none=>rfl
 |some g=>
  obtain⟨j,c⟩:=g;simp only;cases hs:fQ all j with
  |none=>rfl
  |some q=>
   simp only;rw[H q (by unfold looks;rw[hg];simp[hs])]
theorem Gp {all:List Oper}{o:Oper}(H:∀q∈looks all o,bu m e q=bu m e' q):Agree m e e' (opsOf o.op):=by
 intro q c;refine H q ?_;unfold looks;split
 .exact c
 .split
  .exact List.mem_cons_of_mem _ c
  .exact c
theorem pF (h:Qm a b=true):a=b:=by
 unfold Qm at h;split at h<;>try simp only[aF,eB]at h
 .rename_i k x j y;obtain rfl:=jR h.1;have c:=h.2;rw[mU,decide_eq_true_iff]at c;rw[c]
 .rfl
 .rfl
 .rw[kI,decide_eq_true_iff]at h;rw[h]
 .rfl
 .rw[aC h.1,aC h.2]
 .rfl
 .obtain⟨⟨⟨d,c⟩,g⟩,q⟩:=h;rw[aC d,aC c,aC g,aC q]
 .rw[aC h.1,aC h.2]
 .obtain⟨⟨d,c⟩,g⟩:=h;rw[aC d,aC c,aC g]
 .rfl
 .rw[aC h]
 .rfl
 all_goals rfl
theorem lS:∀{a b:List T},Ff a b=true->a=b
 |[],[],_=>rfl
 |a::r,b::q,h=>by
  simp only[Ff,aF]at h;rw[pF h.1,lS h.2]
 |[],_::_,h=>by simp[Ff]at h
 |_::_,[],h=>by simp[Ff]at h
theorem Ko (h:ZJ a b=true):a=b:=by
 unfold ZJ at h;split at h
 .rw[lS h]
 .exact pF h
theorem Bo:∀{a b:List T},QV a b=true->a=b
 |[],[],_=>rfl
 |a::r,b::q,h=>by
  simp only[QV,aF]at h;rw[Ko h.1,Bo h.2]
 |[],_::_,h=>by simp[QV]at h
 |_::_,[],h=>by simp[QV]at h
theorem EZ (h:eqT a b=true):a=b:=by
 unfold eqT at h;split at h
 .rw[lS h]
 .rw[Bo h]
 .exact pF h
theorem jV (h:eqF a b=true):a=b:=by
 unfold eqF at h;split at h
 .rename_i f a b g c d;simp only[aF]at h;have q:f=g:=by
   have j:=h.1.1;unfold Vn at j;split at j
   .rw[aC j]
   .rw[aC j]
   .cases j
  rw[q,lS h.1.2,lS h.2]
 .rfl
 .exact EZ h
theorem Sim.nil (H:Sim P ι s h)(hn:s.nx<=1000000):Sim P ι Q0 h:=by
 refine⟨fun b x g=> ?_,fun b c x y d=> ?_,fun b o d=> ?_⟩
 .have:=H.fresh b x g;exact⟨show b<1000000 by omega,this.2⟩
 .exact absurd (by simp[Q0,S.at,En.bU,aJ]) d
 .simp[Q0,S.at,En.bU,aJ]at d
theorem Sim.grown (H:Sim P ι s h){h':Heap}(hs:h.size<=h'.size)(ho:∀r,r<h.size->h'[r]? =h[r]?):Sim P ι s h'/\Ste ι s h ι s h':=by
 refine⟨⟨fun b x A=> ?_,H.inj,fun b o j=> ?_⟩,⟨fun _ _ h=>h,bi _,bi _,hs,fun _ _ h=>h,fun _ _ h=> .inl h,fun _ _ _ h=>h,fun r q _=>ho r q⟩⟩
 .have:=H.fresh b x A;exact⟨this.1,by omega⟩
 .obtain⟨x,B,c,d,g⟩:=H.obj b o j;exact⟨x,B,c,by rw[ho _ (H.fresh b x c).2];exact d,g⟩
theorem Kc (ok:Ok P p)(re:RE ι m e er)(H:Sim P ι s h)(hn:s.nx<=1000000){s1:S}(hd:gQ p m o e Q0=some (t,s1))(h1:s1.nx=1000000)(h2:1000000<=s1.low):aI P o ty er h (Post P ι s h t s):=by
 refine bH ?_ (U3 ok re (H.nil hn) hd);rintro v C ⟨q,q1,q2,q3⟩;have G:∀b x,ι b=some x->b<1000000:=fun b x j=>by have:=(H.fresh b x j).1;omega
 have d:∀r,r<h.size->C[r]? =h[r]? :=fun r I=>q1.old r I fun b x j _=> .inl (by simp[Q0,S.at,En.bU,aJ])
 obtain⟨A,B⟩:=H.grown q1.size d;have J:∀b,q b=ι b:=by
  intro b;cases c:q b with
  |none=>
   cases hb':ι b with
   |none=>rfl
   |some x=>have:=q1.sub b x hb';rw[c]at this;cases this
  |some x=>
   rcases q1.grow b x c with g|⟨g,_⟩
   .exact g.symm
   .have:=(q2.fresh b x c).1;have L:(1000000:Nat)<=b:=g;omega
 refine⟨ι,B,A,?_⟩;exact VR.mono (fun b x c=>by rw[<-J b];exact c) _ q3
theorem Mf (ok:Ok P p)(re:RE ι m e er)(H:Sim P ι s h)(hk:kindOf o=1)(hd:gQ p m o e s=some (t,s')):aI P o ty er h (Post P ι s h t s):=by
 cases o<;>simp only[kindOf]at hk<;>try (cases hk;done)
 case load u x=>
  have hd:rQ p m e s u x=some (t,s'):=hd;have:s'=s:=by
   unfold rQ at hd;split at hd
   .exact(fD hd).2
   .cases hd
  subst this;exact UC ok re H hd
 case lookup u x k b=>
  have hd:kW p m e s u x k b=some (t,s'):=hd;have:s'=s:=by
   unfold kW at hd;split at hd
   .exact(fD hd).2
   .cases hd
  subst this;exact JO ok re H hd
 case entry x=>
  have hd:nM p m e s x=some (t,s'):=hd;have:s'=s:=by
   unfold nM at hd;split at hd
   .exact(fD hd).2
   .cases hd
  subst this;exact Ot re H hd
 case call c=>
  split at hk<;>cases hk
end
end congr
end Go.Run
namespace Go.Run
open Go Go.Eng
section allocs
variable {P:Program}{p:Pr}{ι:Io}{s s':S}{h:Heap}{m:Fm}{e e':E}{er:Env}{ty:TypeId}{t:T}{K:Value->Heap->Prop}
section
variable {b:Nat}{u:TypeId}
noncomputable def PN (P:Program)(ι:Io)(b:Nat)(h:Heap)(t:T)(ob:VO):Value->Heap->Prop:=fun v h'=>
 ∃obr,h'=h.push obr/\OR P (ι.put b ⟨h.size,0,#[],0,0⟩) ⟨h.size,0,#[],0,0⟩ ob obr/\VR (ι.put b ⟨h.size,0,#[],0,0⟩) t v
theorem KL (hn:ι b=none){cs:List T}{us:List Value}{ct:TypeId}(hv:VL ι cs us):
 PN P ι b h (.ptr b 0) (.row cs ct false) (.pointer (some ⟨h.size,0,none⟩)) (h.push (.cells us.toArray ct)):=
 ⟨_,rfl,⟨_,rfl,by simp[hv.length],by have:=VL.mono (Io.gU (x:=⟨h.size,0,#[],0,0⟩) hn) cs hv;rw[<-hv.length];simpa using this,fun _=>by simp[hv.length],fun h=>(by cases h)⟩,by simp only[VR];exact⟨_,Io.dm,rfl⟩⟩
theorem Aa (hn:ι b=none){cs:List T}{us:List Value}{ct:TypeId}{n c:Nat}(hv:VL ι cs us):
 PN P ι b h (.slice b 0 n c) (.row cs ct false) (.slice (some ⟨h.size,0,none⟩) n c) (h.push (.cells us.toArray ct)):=
 ⟨_,rfl,⟨_,rfl,by simp[hv.length],by have:=VL.mono (Io.gU (x:=⟨h.size,0,#[],0,0⟩) hn) cs hv;rw[<-hv.length];simpa using this,fun _=>by simp[hv.length],fun h=>(by cases h)⟩,by simp only[VR];exact⟨_,Io.dm,rfl⟩⟩
theorem zA6 (hn:ι s.nx=none)(re:RE ι m e er){x:Operand}(hd:tJ p m e s u x=some (t,s')):∃ob,s'=fM s ob/\aI P (.box u x) ty er h (PN P ι s.nx h t ob):=by
 unfold tJ at hd;split at hd
 .rename_i v d;split at hd
  .rename_i c;cases hd;refine⟨_,rfl,aM (by rw[FY];have:=KL (P:=P) (h:=h) (ct:=u) hn (dw (ai re d) c);simpa using this)⟩
  .cases hd
 .cases hd
theorem Wp (ok:Ok P p)(hn:ι s.nx=none)(hd:nJ p m e s u=some (t,s')):∃ob,s'=fM s ob/\aI P (.alloc u) ty er h (PN P ι s.nx h t ob):=by
 unfold nJ at hd;split at hd
 .rename_i q c;split at hd
  .rename_i j;cases hd;have tf:=ok.tf c;obtain⟨z,d,g⟩:=tf.zero;refine⟨_,rfl,aM (by rw[wZ,d,BR];have:=KL (P:=P) (h:=h) (ct:=u) hn (dw (g ι) j);simpa using this)⟩
  .cases hd
 .cases hd
theorem Qk (hn:ι s.nx=none){r:Option Operand}(hd:jP p m e s r=some (t,s')):∃ob,s'=fM s ob/\aI P (.makeMap u r) ty er h (PN P ι s.nx h t ob):=by
 unfold jP at hd;split at hd
 .cases hd;refine⟨_,rfl,aM ?_⟩;rw[p9];exact⟨_,rfl,⟨#[],rfl,rfl,by simp[jZ]⟩,by simp only[VR];exact⟨_,Io.dm,rfl⟩⟩
 .cases hd
theorem FD (ok:Ok P p)(hn:ι s.nx=none)(re:RE ι m e er){n:Nat}{xs:Array (Nat×Operand)}(hd:fO p m e s u n xs=some (t,s')):∃ob,s'=fM s ob/\aI P (.buildSlice u n xs) ty er h (PN P ι s.nx h t ob):=by
 unfold fO at hd;split at hd
 .rename_i J j;have C:=qj re j;unfold Eu at hd;split at hd
  .rename_i L q;have tf:=ok.tf q;split at hd
   .rename_i el d;split at hd
    .rename_i ei g;have B:=ok.tf g;split at hd
     .rename_i r;simp only[aF]at r;obtain⟨⟨⟨c0,c1⟩,c2⟩,c3⟩:=r;have c1:=aC c1;have c2:=aH.1 c2;have c3:=aH.1 c3;split at hd
      .rename_i cs c;cases hd;obtain⟨z,H,I⟩:=B.zero;have A:=dw (I ι) c0;obtain⟨G,q1,q2⟩:=uU C (uO A n) c;refine⟨_,rfl,aM ?_⟩;rw[lH,tf.slice d];have:(xs.map fun(i,x)=>(i,ev er x)).toList=xs.toList.map fun(i,x)=>(i,ev er x):=by simp
       rw[this];simp only[Ey,H,B.size];refine⟨by rw[<-c1,<-A.length];simp,by omega,c3,?_⟩;rw[fJ];exact⟨G,q1,Aa hn q2⟩
      .cases hd
     .cases hd
    .cases hd
   .cases hd
  .cases hd
 .cases hd
theorem Gw (ok:Ok P p)(hn:ι s.nx=none)(re:RE ι m e er){l c:Operand}(hd:gH p m e s u l c=some (t,s')):∃ob,s'=fM s ob/\aI P (.makeSlice u l c) ty er h (PN P ι s.nx h t ob):=by
 unfold gH at hd;split at hd
 .rename_i q n L k N j d B;have tf:=ok.tf B
  replace j:=ai re j
  replace d:=ai re d
  simp only[VR]at j d;split at hd
  .rename_i el n k r;simp only[bL]at j d;unfold BD at hd;split at hd
   .rename_i ei A;have C:=ok.tf A;split at hd
    .rename_i g;cases hd;simp only[aF]at g;obtain⟨⟨⟨⟨⟨c0,c1⟩,c2⟩,c3⟩,c4⟩,c5⟩:=g;have c1:=aC c1;have c2:=aH.1 c2;have c3:=aH.1 c3;have c4:=aH.1 c4;have c5:=aH.1 c5;obtain⟨z,H,I⟩:=C.zero;have G:=dw (I ι) c0;have J:k<=1000000:=fw (sM k c2) c4;refine⟨_,rfl,aM ?_⟩;rw[nA,j,d,tf.slice r];simp only[FV,H,C.size,Gu C];refine⟨by rw[<-c1,<-G.length];simp,by omega,by omega,by omega,?_,by omega,?_⟩
     .have:(k:Int)*(ei.bytes:Int)=((k*ei.bytes:Nat):Int):=by simp
      rw[this];omega
     .exact Aa hn (uO G k)
    .cases hd
   .cases hd
  .cases hd
 .cases hd
theorem BJ (ok:Ok P p)(hn:ι b=none)(re:RE ι m e er){o:Oper}(hk:kindOf o.op=3){ob:VO}(hd:nH p m o e b=some (t,ob)):aI P o.op o.type er h (PN P ι b h t ob)/\b<=16383:=by
 unfold nH at hd;split at hd
 .rename_i L G g;split at hd
  .rename_i J C;cases hd;have j:∀d,G=fM (sAt b) d->d=ob/\b<=16383:=by
    intro d I;rw[I,zX,bO]at C;split at C
    .rename_i H;cases C;exact⟨rfl,H.1⟩
    .simp[sAt,S.at,En.bU,aJ]at C
   generalize hop:o.op=op at *;cases op<;>simp only[kindOf]at hk<;>try (cases hk;done)
   case alloc u=>
    obtain⟨d,q,A⟩:=Wp (s:=sAt b) (er:=er) (h:=h) (ty:=o.type) ok hn (show nJ p m e (sAt b) u=some (t,G)from g);obtain⟨rfl,B⟩:=j d q;exact⟨A,B⟩
   case box u x=>
    obtain⟨d,q,A⟩:=zA6 (s:=sAt b) (h:=h) (P:=P) (ty:=o.type) hn re (show tJ p m e (sAt b) u x=some (t,G)from g);obtain⟨rfl,B⟩:=j d q;exact⟨A,B⟩
   case buildSlice u n xs=>
    obtain⟨d,q,A⟩:=FD (s:=sAt b) (h:=h) (ty:=o.type) ok hn re (show fO p m e (sAt b) u n xs=some (t,G)from g);obtain⟨rfl,B⟩:=j d q;exact⟨A,B⟩
   case makeSlice u x y=>
    obtain⟨d,q,A⟩:=Gw (s:=sAt b) (h:=h) (ty:=o.type) ok hn re (show gH p m e (sAt b) u x y=some (t,G)from g);obtain⟨rfl,B⟩:=j d q;exact⟨A,B⟩
   case makeMap u r=>
    obtain⟨d,q,A⟩:=Qk (s:=sAt b) (er:=er) (h:=h) (P:=P) (ty:=o.type) hn (show jP p m e (sAt b) r=some (t,G)from g);obtain⟨rfl,B⟩:=j d q;exact⟨A,B⟩
   case call c=>split at hk<;>cases hk
  .cases hd
 .cases hd
theorem Sim.add (H:Sim P ι s h)(hn:ι b=none)(hb:b<s.nx)(h0:s.at b=none){obr:Obj}:Sim P (ι.put b ⟨h.size,0,#[],0,0⟩) s (h.push obr):=by
 have g:=Io.gU (x:=⟨h.size,0,#[],0,0⟩) hn;refine⟨fun c x j=> ?_,fun c d x y r I j C B=> ?_,fun c o r=> ?_⟩
 .unfold Io.put at j;split at j
  .rename_i q;cases j;subst q;exact⟨hb,by simp⟩
  .have:=H.fresh c x j;exact⟨this.1,by simp;omega⟩
 .unfold Io.put at j C;split at j
  .rename_i q;subst q;exact absurd h0 r
  .split at C
   .rename_i A;subst A;exact absurd h0 I
   .exact H.inj c d x y r I j C B
 .obtain⟨x,N,G,J,L⟩:=H.obj c o r;refine⟨x,N,g _ _ G,?_,L.mono g⟩;rw[Array.getElem?_push,if_neg (by have:=(H.fresh c x G).2;omega)];exact J
theorem Sim.lay (H:Sim P ι s h){x:Inf}{ob:VO}{obr:Obj}(hx:ι b=some x)(hg:h[x.r]? =some obr)(ho:OR P ι x ob obr)(hu:∀c y,ι c=some y->y.r=x.r->c=b):Sim P ι (bG s b (some ob) s.nx s.low) h:=by
 refine⟨fun c y q=>by rw[fq];exact H.fresh c y q,fun c d y z g C q B j=> ?_,fun c o g=> ?_⟩
 .rw[bO]at g C;split at g
  .rename_i A;obtain⟨_,rfl⟩:=A;rw[hx]at q;cases q;exact(hu d z B j.symm).symm
  .split at C
   .rename_i A;obtain⟨_,rfl⟩:=A;rw[hx]at B;cases B;exact hu c y q j
   .exact H.inj c d y z g C q B j
 .rw[bO]at g;split at g
  .rename_i A;cases g;obtain⟨_,rfl⟩:=A;exact⟨x,obr,hx,hg,ho⟩
  .exact H.obj c o g
end
end allocs
end Go.Run
