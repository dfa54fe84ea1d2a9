/- Lemmas. No condition. -/
import Derived.Test.YtejmkibjpaoahaaGreatDoorS3
open Go.Value renaming oneCell'→af,cells→aC
open And renaming intro→aD
open List renaming getElem?_eq_getElem→aY,length_cons→aZ,getElem_mem→bS,length_append→cK,length_map→dC,mem_cons→ek,mem_map→gL,map_cons→ib,not_mem_nil→kY,map_map→ql,getElem?_cons_succ→LF
open Int renaming toNat_natCast→bi
open Nat renaming le_refl→bM
set_option linter.unusedSimpArgs false
set_option linter.unusedVariables false
set_option linter.defProp false
section
namespace Go.Proofs.YtejmkibjpaoahaaGreatDoor
open Go Go.Proofs Go.Eng Go.Run Tab
section
variable {acc:Int}{b cl:Nat}{es:List En}{k:Nat}
set_option maxRecDepth 100000
set_option linter.unusedSimpArgs false
set_option linter.unusedVariables false
set_option linter.defProp false
set_option maxHeartbeats 2000000
set_option linter.defProp false
def zOA:=(aD (aD (aD (aD @zPd (aD @zQL @zRY)) (aD (aD @zRZ @zQ4) (aD @by2 @zQi))) (aD (aD @zQb (aD @zSP @zQc)) (aD (aD @zQF @zQN) (aD @zQO @zQz)))) (aD (aD (aD @zP0 (aD @zPs @zR8)) (aD (aD @zR9 @zPK) (aD @sz2 @sz3))) (aD (aD (aD @zTg @zTh) (aD @zQA @zWi)) (aD (aD @zQv @zPi) (aD @Tryz.underlying33 @Tryz.underlying48)))))
theorem zQ1.ext {B:Nat}{l:List UInt8}{h h':Eng.Heap}(H:zQ1 B b l h)(x:Ext h h'):zQ1 B b l h':=fun w' hw'=>by
 have key:∀p,Lib.BuilderAt 129 5 B b p (Lib.byteCells l) {w' with heap:=h}->Lib.BuilderAt 129 5 B b p (Lib.byteCells l) w':=by
  rintro p ⟨h1,v,h2,⟨h3,h4⟩,h5⟩;refine⟨h1,v,by rw[hw'];exact x.get h2,⟨h3,?_⟩,h5⟩;rcases h4 with h4|⟨g,cap,cur,e1,e2,e3,e4⟩
  .exact .inl h4
  .exact .inr ⟨g,cap,cur,e1,e2,by rw[hw'];exact x.get e3,e4⟩
 exact(H {w' with heap:=h} rfl).imp (key _) (key _)
theorem zQ1.lt {B:Nat}{l:List UInt8}{h:Eng.Heap}(H:zQ1 B b l h):b<h.size:=by
 rcases H {(default:World)with heap:=h} rfl with h1|h1<;>exact h1.lt
def fil (k cl:Nat)(es:List En)(i:Nat):List UInt8:=zPt [k,cl]++(es.take i).flatMap fun e=>zPt (eN e)
theorem zUz (k cl:Nat)(es:List En):fil k cl es 0=zPt [k,cl]:=by simp[fil]
theorem zUy {i:Nat}(hi:i<es.length):fil k cl es (i+1)=fil k cl es i++zPt (eN es[i]):=by
 unfold fil;rw[zP2 hi,List.flatMap_append,List.append_assoc];simp
theorem zTq (hk:k<=8)(hc:cl<=30)(ha:acc<=8)(ho:∀e∈es,okE acc e)(i:Nat):(fil k cl es i).length<=15+15*es.length:=by
 have h1:=zPz (zQp (a:=k) (b:=cl) (by omega) (by omega));have h2:=zVD ha (es:=es.take i) fun e he=>ho e (List.mem_of_mem_take he)
 rw[List.length_take]at h2;unfold fil;rw[cK];omega
theorem zTp:fil k cl es es.length++zPt [es.length,(zPJ es).toNat]=zP7 k cl es:=by
 unfold fil zP7;rw[List.take_of_length_le (bM _)]
theorem zZI {e:En}(h:okE acc e):nzF (eN e)=[e.d,e.f,e.t,e.a]:=by
 obtain⟨h1,h2,h3,h4⟩:=h;simp only[nzF,eN,ib,List.map_nil];congr 1
 .omega
 congr 1
 .omega
 congr 1
 .omega
 congr 1;omega
theorem zUx {e:En}(ha:acc<=8)(h:okE acc e):∀n∈eN e,n<=1000000:=by
 obtain⟨h1,h2,h3,h4⟩:=h;intro n hn;simp only[eN,ek,kY,or_false]at hn;omega
noncomputable def zT5 (acc cl:Int)(es:List En):Value:=if chk acc cl es=0 then .tuple #[.string (bs (zP7 acc.toNat cl.toNat es)),.int .i64 0]else .tuple #[.string ⟨#[]⟩,.int .i64 (chk acc cl es)]
theorem zSG {a:Nat}(ha:a<=1000000)(hb:b<=1000000):∀n∈[a,b],n<=1000000:=fun n hn=>by
 simp only[ek,kY,or_false]at hn;omega
theorem zXd (acc cl:Int)(a:Option Addr)(n c:Nat)(es:List En)(h:Eng.Heap)(F:Fx h)(hr:Row h a (zOS es))(hn:n=es.length)(hl:n<=1000):
 ak Tryz.prog 22 #[.agg #[.int .i64 acc,.int .i64 cl,.slice a n c]] h (fun v h'=>v=zT5 acc cl es/\Ext h h'):=by
 (refine Rm Tryz.func22 rfl zY3 ?_;simp only[Tryz.ntmps22,Tryz.results22,coreS,U1,splice,aC,af,Nat.reduceAdd,Nat.reduceSub,Nat.reduceMul,Nat.reduceLeDiff,Int.reduceEq,Nat.reduceEqDiff,zOA])
 have x0:Ext h (h.push (.cells #[.int .i64 acc,.int .i64 cl,.slice a n c] 35)):=(Ext.refl h).push _;refine ak.mono (zRQ acc cl a n c es _ (hr.ext x0) hn (by omega)) ?_;rintro v h1 ⟨rfl,x1⟩;have y1:=x0.trans x1;have t1:=x1.get (jD (h:=h) (o:= .cells #[.int .i64 acc,.int .i64 cl,.slice a n c] 35));by_cases hc:chk acc cl es=0
 case neg=>
  have e0:zT5 acc cl es= .tuple #[.string ⟨#[]⟩,.int .i64 (chk acc cl es)]:=by rw[zT5,if_neg hc]
  simp only[hc,decide_false,Bool.not_false,coreS,aC,af,Nat.reduceAdd,Nat.reduceSub,Nat.reduceMul,Nat.reduceLeDiff,Int.reduceEq,Nat.reduceEqDiff,zOA];exact⟨e0.symm,y1⟩
 obtain⟨ha,hl2,hcl,hok,-⟩:=zQx hc;obtain⟨k,rfl⟩:∃k:Nat,acc=k:=⟨acc.toNat,by omega⟩;obtain⟨z,rfl⟩:∃z:Nat,cl=z:=⟨cl.toNat,by omega⟩;have hk8:k<=8:=by omega
 have hz30:z<=30:=by omega
 have hka:(k:Int)<=8:=by omega
 have tb:=zQI hok;have e0:zT5 k z es= .tuple #[.string (bs (zP7 k z es)),.int .i64 0]:=by rw[zT5,if_pos hc,bi,bi]
 have xb:Ext h1 (h1.push (.cells #[.pointer none,.slice none 0 0] 129)):=(Ext.refl _).push _;have B0:=zQ1.fresh h1;obtain⟨hb,hhb⟩:∃hb,hb=h1.push (.cells #[.pointer none,.slice none 0 0] 129):=⟨_,rfl⟩;have hne:¬h.size=h1.size:=by
  have:=x1.size;rw[Array.size_push]at this;omega
 simp only[hc,hne,t1,decide_true,Bool.not_true,if_false,coreS,aC,af,Nat.reduceAdd,Nat.reduceSub,Nat.reduceMul,Nat.reduceLeDiff,Int.reduceEq,Nat.reduceEqDiff,zOA];rw[<-hhb]at xb B0 ⊢;simp only[coreS,U1,splice,aC,af,Nat.reduceAdd,Nat.reduceSub,Nat.reduceMul,Nat.reduceLeDiff,Int.reduceEq,Nat.reduceEqDiff,zOA];have xc:Ext hb (hb.push (.cells #[.int .i64 k,.int .i64 z] 2)):=(Ext.refl _).push _;have len2:=zQp (a:=k) (b:=z) (by omega) (by omega);refine ak.mono (zTa _ 2 2 [k,z] _ (F.ext (y1.trans (xb.trans xc))) (zQX jD) (by simp) len2 (zSG (by omega) (by omega)) (by simp)) ?_;rintro v h2 ⟨rfl,x2⟩;have x2':=xc.trans x2;simp only[coreS,aC,af,Nat.reduceAdd,Nat.reduceSub,Nat.reduceMul,Nat.reduceLeDiff,Int.reduceEq,Nat.reduceEqDiff,zOA];have l15:=zPz len2;refine ak.mono (zYH h1.size h1.size [] _ h2 (B0.ext x2') (by rw[zP4];simp;omega) (by have:=(xb.trans x2').size;omega)) ?_;rintro v h3 ⟨rfl,B3,E3⟩;have x3:Ext h1 h3:=E3.ext (xb.trans x2') (bM _);have t3:=x3.get t1;simp only[t3,coreS,aC,af,Nat.reduceAdd,Nat.reduceSub,Nat.reduceMul,Nat.reduceLeDiff,Int.reduceEq,Nat.reduceEqDiff,zOA];have B3':zQ1 h1.size h1.size (fil k z es 0) h3:=by
  rw[zUz];have e1:(bs (zPt [k,z])).data.toList=zPt [k,z]:=zPG _;rw[e1]at B3;exact B3
 refine zAi [7,23,24,25,26,27,28,29,30,31,32,33,34,35,36,37,38] (fun e h'=>Ext h1 h'/\∃i:Nat,i<=n/\e 23= .int .i64 i/\zQ1 h1.size h1.size (fil k z es i) h') (fun e _=>match e 23 with| .int _ q=>n-q.toNat|_=>0) ⟨x3,0,by omega,rfl,B3'⟩ ?_;rintro e h4 ⟨x4,i,hi,he,B4⟩;have r4:=hr.ext (y1.trans x4);have fl:=zTq (k:=k) (cl:=z) hk8 hz30 hka hok i;by_cases hin:i<n
 .have hlt:(i:Int)<(n:Int):=by omega
  have meas:n-((i:Int)+1).toNat<n-(i:Int).toNat:=by omega
  have hie:i<es.length:=by omega
  have hce:=zRj r4 hie;have sa:=hr.isSome (by rw[zOI];omega);have oki:=hok es[i] (bS hie);simp only[he,hlt,hce,decide_true,bi,coreS,aC,af,Nat.reduceAdd,Nat.reduceSub,Nat.reduceMul,Nat.reduceLeDiff,Int.reduceEq,Nat.reduceEqDiff,zOA];refine⟨by omega,sa,?_⟩;refine Oy jD (by simp) fun h5 g5 u5=> ?_
  simp only[splice,List.take,List.drop,List.nil_append,List.append_nil,aZ,List.length_nil]at g5;have x5:Ext h4 h5:=u5.ext ((Ext.refl h4).push _) (bM _);simp only[he,g5,coreS,U1,splice,aC,af,Nat.reduceAdd,Nat.reduceSub,Nat.reduceMul,Nat.reduceLeDiff,Int.reduceEq,Nat.reduceEqDiff,zOA];have xd:Ext h5 (h5.push (.cells #[.int .i64 es[i].d,.int .i64 es[i].f,.int .i64 es[i].t,.int .i64 es[i].a] 2)):=(Ext.refl _).push _;have I4:eu (h5.push (.cells #[.int .i64 es[i].d,.int .i64 es[i].f,.int .i64 es[i].t,.int .i64 es[i].a] 2)) (some ⟨h5.size,0,none⟩) 4 (nzF (eN es[i])):=by
   rw[zZI oki];exact eu.block (xs:=[es[i].d,es[i].f,es[i].t,es[i].a]) jD
  have len4:=zRB hka oki;refine ak.mono (zTa _ 4 4 (eN es[i]) _ (F.ext ((y1.trans x4).trans (x5.trans xd))) I4 (by simp[eN]) len4 (zUx hka oki) (by simp[eN])) ?_;rintro v h6 ⟨rfl,x6⟩;have x6':=x5.trans (xd.trans x6);have l15e:=zPz len4;simp only[coreS,aC,af,Nat.reduceAdd,Nat.reduceSub,Nat.reduceMul,Nat.reduceLeDiff,Int.reduceEq,Nat.reduceEqDiff,zOA];refine ak.mono (zYH h1.size h1.size _ _ h6 (B4.ext x6') (by rw[zP4];omega) (by have:=(x4.trans x6').size;omega)) ?_;rintro v h7 ⟨rfl,B7,E7⟩;have x7:Ext h1 h7:=E7.ext (x4.trans x6') (bM _);simp only[he,coreS,aC,af,Nat.reduceAdd,Nat.reduceSub,Nat.reduceMul,Nat.reduceLeDiff,Int.reduceEq,Nat.reduceEqDiff,zOA];have e1:(bs (zPt (eN es[i]))).data.toList=zPt (eN es[i]):=zPG _;rw[e1,<-zUy hie]at B7;exact⟨by rw[zBS];omega,Zr (by kernel_rfl) ⟨x7,i+1,by omega,rfl,B7⟩ meas⟩
 obtain rfl:n=i:=by omega
 have t4:=x4.get t1;simp only[he,show¬((n:Int)<(n:Int)) by omega,decide_false,coreS,aC,af,Nat.reduceAdd,Nat.reduceSub,Nat.reduceMul,Nat.reduceLeDiff,Int.reduceEq,Nat.reduceEqDiff,zOA];refine zB9 (by kernel_rfl) zBc [(0,0),(1,0),(2,0),(3,0),(4,0),(5,0),(6,1),(7,1),(8,1)] (by kernel_rfl) rfl (by kernel_rfl) ?_;simp only[t4,coreS,aC,af,Nat.reduceAdd,Nat.reduceSub,Nat.reduceMul,Nat.reduceLeDiff,Int.reduceEq,Nat.reduceEqDiff,drawS,zOA];refine zCC _ (fun h' x'=>ak.mono (zUN a n c es h' (r4.ext x') hn hl fun e he=>by have:=(hok e he).2.2.2;omega) fun v h'' q=>⟨q.1,q.2⟩) ?_;simp only[coreS,aC,af,Nat.reduceAdd,Nat.reduceSub,Nat.reduceMul,Nat.reduceLeDiff,Int.reduceEq,Nat.reduceEqDiff,drawS,zOA];have tT:∃m:Nat,zPJ es=m/\m<=1000000:=⟨(zPJ es).toNat,by omega,by omega⟩;obtain⟨m,hm,hmb⟩:=tT;have fa:=zTp (k:=k) (cl:=z) (es:=es);rw[hm,bi,<-hn]at fa;rw[hm];refine Rj rfl rfl fun h5 x5=> ?_
 simp only[coreS,U1,splice,aC,af,Nat.reduceAdd,Nat.reduceSub,Nat.reduceMul,Nat.reduceLeDiff,Int.reduceEq,Nat.reduceEqDiff,drawS,zOA];refine Rj rfl rfl fun h6 x6=> ?_
 simp only[coreS,aC,af,Nat.reduceAdd,Nat.reduceSub,Nat.reduceMul,Nat.reduceLeDiff,Int.reduceEq,Nat.reduceEqDiff,drawS,zOA];have I2:=zQX (h:=h6) (x6.get (jD (h:=h5)));have x46:Ext h4 h6:=(x5.trans ((Ext.refl h5).push _)).trans x6;have len3:=zQp (a:=n) (b:=m) (by omega) (by omega);have l15e:=zPz len3;refine ak.mono (zTa _ 2 2 [n,m] _ (F.ext ((y1.trans x4).trans x46)) I2 (by simp) len3 (zSG (by omega) (by omega)) (by simp)) ?_;rintro v h7 ⟨rfl,x7⟩;simp only[coreS,aC,af,Nat.reduceAdd,Nat.reduceSub,Nat.reduceMul,Nat.reduceLeDiff,Int.reduceEq,Nat.reduceEqDiff,drawS,zOA];refine Rj rfl rfl fun h8 x8=> ?_
 have x48:=(x46.trans x7).trans x8;rw[<-hn]at fl;have hBs:h1.size<=h8.size:=Nat.le_trans x4.size x48.size;simp only[coreS,aC,af,Nat.reduceAdd,Nat.reduceSub,Nat.reduceMul,Nat.reduceLeDiff,Int.reduceEq,Nat.reduceEqDiff,drawS,zOA];refine ak.mono (zYH h1.size h1.size _ _ h8 (B4.ext x48) (by rw[zP4];omega) hBs) ?_;rintro v h9 ⟨rfl,B9,E9⟩;have x9:Ext h1 h9:=E9.ext (x4.trans x48) (bM _);have e1:(bs (zPt [n,m])).data.toList=zPt [n,m]:=zPG _;rw[e1,hn,<-hn,fa]at B9;simp only[coreS,aC,af,Nat.reduceAdd,Nat.reduceSub,Nat.reduceMul,Nat.reduceLeDiff,Int.reduceEq,Nat.reduceEqDiff,drawS,zOA];refine zBw fun h10 x10=> ?_
 simp only[coreS,aC,af,Nat.reduceAdd,Nat.reduceSub,Nat.reduceMul,Nat.reduceLeDiff,Int.reduceEq,Nat.reduceEqDiff,zOA];refine ak.mono (zZM h1.size h1.size _ h10 (B9.ext x10) (by have:=x9.size;have:=x10.size;omega)) ?_;rintro v h11 ⟨rfl,E11⟩;have x11:Ext h1 h11:=E11.ext (x9.trans x10) (bM _);simp only[coreS,aC,af,Nat.reduceAdd,Nat.reduceSub,Nat.reduceMul,Nat.reduceLeDiff,Int.reduceEq,Nat.reduceEqDiff,zOA];exact⟨e0.symm,y1.trans x11⟩
end
end Go.Proofs.YtejmkibjpaoahaaGreatDoor
end
section
namespace Go.Proofs.YtejmkibjpaoahaaGreatDoor
open Go Go.Proofs Go.Eng
set_option maxRecDepth 100000
set_option linter.unusedSimpArgs false
set_option linter.unusedVariables false
set_option linter.defProp false
theorem zVv {acc:Int}{e:En}(h:okE acc e):zT3 (eN e)=e:=by
 obtain⟨h1,h2,h3,h4⟩:=h;obtain⟨d,f,t,a⟩:=e;have a1:((d.toNat:Nat):Int)=d:=by have:1<=d:=h1.1;omega
 have a2:((f.toNat:Nat):Int)=f:=by have:0<=f:=h2.1;omega
 have a3:((t.toNat:Nat):Int)=t:=by have:0<=t:=h3.1;omega
 have a4:((a.toNat:Nat):Int)=a:=by have:1<=a:=h4.1;omega
 show(⟨((d.toNat:Nat):Int),((f.toNat:Nat):Int),((t.toNat:Nat):Int),((a.toNat:Nat):Int)⟩:En)=_;rw[a1,a2,a3,a4]
def zPB (R:List (List Nat)):List ByteArray:=R.map fun ns=>bs (zPA ns)
theorem zSA (k z:Nat)(es:List En):(zOk k z es).length=es.length+2:=by
 unfold zOk;rw[aZ,cK,dC,List.length_singleton]
theorem zVx (R:List (List Nat))(h:R≠[]):(R.flatMap fun ns=>zPA ns++[10])=FL.jn 10 (R.map zPA)++[10]:=by
 rw[zRa _ (by simpa using h),List.flatMap_map]
theorem zXp {s:ByteArray}{LL:List (List UInt8)}(h:bl s=FL.jn 10 LL++[10])(h0:LL≠[])(hn:∀l∈LL,(10:UInt8)∉l):zPP s 10=true/\zOm s=LL.map bs:=by
 have hb:zPP s 10=true:=zSw (by rw[h,List.getLast?_concat]);refine⟨hb,?_⟩;have h1:=zRc hb;rw[h]at h1;have h2:=List.append_cancel_right h1;unfold zOm;rw[<-h2,FL.zTd 10 LL h0 hn]
theorem zVB (k z:Nat)(es:List En):zPP (bs (zP7 k z es)) 10=true/\zOm (bs (zP7 k z es))=zPB (zOk k z es):=by
 have hne:zOk k z es≠[]:=by unfold zOk;simp
 have h:=zXp (s:=bs (zP7 k z es)) (LL:=(zOk k z es).map zPA) (by rw[zPG,zRt,zVx _ hne]) (by simpa using hne) fun l hl=>by
  obtain⟨ns,-,rfl⟩:=gL.1 hl;exact zXo ns
 refine⟨h.1,?_⟩;rw[h.2];unfold zPB;rw[ql];rfl
section
variable {k z:Nat}{es:List En}
theorem zW5 (hc:chk k z es=0):∀ns∈zOk k z es,zRD (bs (zPA ns)) ns.length/\zOx (bs (zPA ns))=ns/\zPu (bs (zPA ns))=true:=by
 obtain⟨ha,hl,hz,hok,-⟩:=zQx hc;have ht:=zQI hok;have hka:(k:Int)<=8:=by omega
 intro ns hns;unfold zOk at hns;have two:∀a b:Nat,a<100->b<1000000->zRD (bs (zPA [a,b])) [a,b].length/\zOx (bs (zPA [a,b]))=[a,b]/\zPu (bs (zPA [a,b]))=true:=fun a b h1 h2=>zUD (by simp) (zQp h1 h2) fun n hn=>by
  simp only[ek,kY,or_false]at hn;omega
 rcases ek.1 hns with rfl|hns
 .exact two k z (by omega) (by omega)
 rcases List.mem_append.1 hns with hns|hns
 .obtain⟨e,he,rfl⟩:=gL.1 hns;have ho:=hok e he;refine zUD (by simp[eN]) (zRB hka ho) fun n hn=> ?_
  obtain⟨h1,h2,h3,h4⟩:=ho;simp only[eN,ek,kY,or_false]at hn;omega
 .rw[List.mem_singleton.1 hns];exact two _ _ (by omega) (by omega)
theorem zS3 {i:Nat}(hi:i<(zOk k z es).length):(zPB (zOk k z es)).getD i ⟨#[]⟩=bs (zPA ((zOk k z es)[i])):=by
 rw[List.getD_eq_getElem?_getD,aY (by unfold zPB;rw[dC];exact hi)];unfold zPB;rw[List.getElem_map];rfl
theorem zU8:(zOk k z es)[0]? =some [k,z]:=rfl
theorem zV3 {j:Nat}(hj:j<es.length):(zOk k z es)[j+1]? =some (eN es[j]):=by
 unfold zOk;rw[LF,List.getElem?_append_left (by rw[dC];exact hj),List.getElem?_map,aY hj];rfl
theorem zSB:(zOk k z es)[es.length+1]? =some [es.length,(zPJ es).toNat]:=by
 unfold zOk;rw[LF,List.getElem?_append_right (by rw[dC];exact bM _),dC,Nat.sub_self];rfl
theorem zU7 {i:Nat}(hi:i<(zOk k z es).length):((zOk k z es)[i]).length=zOw (zOk k z es).length i:=by
 have hl:=zSA k z es;have hx:=aY hi;obtain⟨x,he⟩:∃x,x=(zOk k z es)[i]:=⟨_,rfl⟩;rw[<-he]at hx ⊢;clear he;unfold zOw;rw[hl];by_cases h0:i=0
 .subst h0;rw[zU8]at hx;cases hx;rfl
 .obtain⟨j,rfl⟩:∃j,i=j+1:=⟨i-1,by omega⟩;rw[if_neg h0];by_cases hj:j<es.length
  .rw[zV3 hj]at hx;cases hx;rw[if_neg (by omega)];rfl
  .have:j=es.length:=by omega
   subst this;rw[zSB]at hx;cases hx;rw[if_pos rfl];rfl
theorem zWR (hc:chk k z es=0):ldE (bs (zP7 k z es))=0/\Uc (zOm (bs (zP7 k z es)))=k/\zPx (zOm (bs (zP7 k z es)))=z/\zPZ (zOm (bs (zP7 k z es)))=es:=by
 obtain⟨hb,hL⟩:=zVB k z es;obtain⟨ha,hl,hz,hok,-⟩:=zQx hc;have hrd:=zW5 hc;have hlen:=zSA k z es;have hLl:(zPB (zOk k z es)).length=es.length+2:=by unfold zPB;rw[dC,hlen]
 have r0:zOx ((zPB (zOk k z es)).getD 0 ⟨#[]⟩)=[k,z]:=by
  rw[zS3 (by omega)];exact(hrd _ (bS (by omega))).2.1
 have e1:Uc (zPB (zOk k z es))=k:=by unfold Uc;rw[r0];rfl
 have e2:zPx (zPB (zOk k z es))=z:=by unfold zPx;rw[r0];rfl
 have e3:zPZ (zPB (zOk k z es))=es:=by
  have hm:zRg (zPB (zOk k z es))=es.map fun e=>bs (zPA (eN e)):=by
   unfold zRg;rw[hLl];unfold zPB zOk;rw[ib,List.map_append,List.drop_succ_cons,List.drop_zero,Nat.add_sub_cancel,ql];exact List.take_left' (by rw[dC])
  unfold zPZ;rw[hm,ql];refine(List.map_congr_left (g:=id) fun e he=> ?_).trans (List.map_id _);have hme:eN e∈zOk k z es:=by
   unfold zOk;exact List.mem_cons_of_mem _ (List.mem_append_left _ (List.mem_map_of_mem he))
  show zT3 (zOx (bs (zPA (eN e))))=e;rw[(hrd _ hme).2.1];exact zVv (hok e he)
 have h3:zQ5 (zPB (zOk k z es)):=fun i hi=>by
  have hi2:i<(zOk k z es).length:=by omega
  rw[zS3 hi2,show(zPB (zOk k z es)).length=(zOk k z es).length by omega,<-zU7 hi2];exact(hrd _ (bS hi2)).1
 have h4:(zPB (zOk k z es)).all zPu=true:=by
  rw[List.all_eq_true];intro w hw;unfold zPB at hw;obtain⟨ns,hns,rfl⟩:=gL.1 hw;exact(hrd ns hns).2.2
 have rz:zRH (zPB (zOk k z es))=[es.length,(zPJ es).toNat]:=by
  have hi:es.length+1<(zOk k z es).length:=by omega
  have hx:=aY hi;rw[zSB]at hx;unfold zRH;rw[hLl,show es.length+2-1=es.length+1 by omega,zS3 hi,(hrd _ (bS hi)).2.1];exact(Option.some.inj hx).symm
 have tb:=zQI hok;have h5:zRI (zPB (zOk k z es)):=by
  unfold zRI;rw[rz,e3];exact⟨rfl,by show((zPJ es).toNat:Int)=_;omega⟩
 have hsz:¬400<(bs (zP7 k z es)).size:=by
  rw[zP4];have h6:=zTq (k:=k) (cl:=z) (es:=es) (acc:=k) (by omega) (by omega) (by omega) hok es.length;have h7:=zPz (zQp (a:=es.length) (b:=(zPJ es).toNat) (by omega) (by omega));have h8:=congrArg List.length (zTp (k:=k) (cl:=z) (es:=es));rw[cK]at h8;omega
 rw[hL];refine⟨?_,e1,e2,e3⟩;rw[zSV hsz ⟨hb,by rw[hL];omega⟩ (by rw[hL];exact h3) (by rw[hL];exact h4) (by rw[hL];exact h5),hL,e1,e2,e3];exact hc
end
end Go.Proofs.YtejmkibjpaoahaaGreatDoor
end
section
namespace Go.Proofs.YtejmkibjpaoahaaGreatDoor
open Go Go.Proofs Go.Eng Go.Run
set_option maxRecDepth 100000
set_option linter.unusedSimpArgs false
set_option linter.unusedVariables false
theorem zVA (h:Eng.Heap)(F:Fx h)(a:Option Addr)(n c:Nat)(es:List En)(h1:Eng.Heap)(x1:Ext h h1)(R:Row h1 a (zOS es))(hn:n=es.length)(hl:n<=10)(hc:chk 2 0 es=0):ak Tryz.prog 22 #[.agg #[.int .i64 2,.int .i64 0,.slice a n c]] h1 (fun v h2=>(∃g:ByteArray,v= .tuple #[.string g,.int .i64 0]/\∀h3,Ext h2 h3->ak Tryz.prog 23 #[.string g] h3 (fun v h4=>(∃a4 n4 c4,v= .tuple #[.agg #[.int .i64 2,.int .i64 0,.slice a4 n4 c4],.int .i64 0]/\n4=es.length/\Row h4 a4 (zOS es))/\Ext h3 h4))/\Ext h1 h2):=by
 refine ak.mono (zXd 2 0 a n c es h1 (F.ext x1) R hn (by omega)) ?_;rintro v h2 ⟨rfl,x2⟩;obtain⟨l0,l1,l2,l3⟩:=zWR (k:=2) (z:=0) (es:=es) hc;obtain⟨g,hg⟩:∃g,g=bs (zP7 2 0 es):=⟨_,rfl⟩;have e:zT5 2 0 es= .tuple #[.string g,.int .i64 0]:=by rw[zT5,if_pos hc,hg];rfl
 rw[<-hg]at l0 l1 l2 l3;have gs:g.size<=400:=by
  refine Nat.le_of_not_lt fun hh=> ?_
  rw[zRb hh]at l0;cases l0
 refine⟨⟨g,e,fun h3 x3=> ?_⟩,x2⟩;refine ak.mono (zXq g h3 ((F.ext x1).ext (x2.trans x3)) (by omega)) ?_;rintro v h4 ⟨L3,x4⟩;refine⟨?_,x4⟩;rcases L3 with⟨_,a4,n4,c4,q1,q2,q3⟩|⟨hh,_⟩
 .rw[l1,l2]at q1;rw[l3]at q2 q3;exact⟨a4,n4,c4,q1,q2,q3⟩
 .exact absurd l0 hh
end Go.Proofs.YtejmkibjpaoahaaGreatDoor
end
