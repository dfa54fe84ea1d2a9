/- Lemmas. No condition. -/
import Derived.Test.YtejmkibjpaoahaaGreatDoorV5
import Derived.Test.YtejmkibjpaoahaaGreatDoorWs
open Go.Value renaming oneCell'→af,cells→aC
open And renaming intro→aD
open List renaming getElem?_eq_getElem→aF,getD_eq_getElem?_getD→aN,length_cons→aZ,mem_map→bz,append_nil→bK,length_nil→bL,nil_append→bS,cons_append→dC,take→eD,drop→gL,getElem?_take→kE,getElem?_drop→lh
open Go.Proofs.Tryz renaming prog→aS,underlying3→pE,underlying24→HY
open Int renaming toNat_natCast→aW,tmod_lt_of_pos→Fx,tmod_nonneg→KN
open Bool renaming not_false→bJ,not_true→bP
open Go.DataW renaming trod→xR,trod_int→yQ,trod_struct→GL
set_option linter.unusedSimpArgs false
set_option linter.unusedVariables false
set_option linter.defProp false
set_option maxRecDepth 100000
namespace Go.Proofs.YtejmkibjpaoahaaGreatDoor
open Go Go.Proofs Go.Eng Go.Run Tab
set_option maxHeartbeats 100000000
def TS:=(aD (aD (aD (aD (aD @zFq @zGI) (aD @zI3 @zD2)) (aD (aD @zEn @by2) (aD @by3 (aD @zK3 @zGx)))) (aD (aD (aD @zGy @zEs) (aD @zEO @zFw)) (aD (aD @zFx @zNM) (aD @zFP (aD @zGM @zIt))))) (aD (aD (aD (aD @zDX @zEw) (aD @zHe @zOI)) (aD (aD @sz2 @zJP) (aD @zMj (aD @sz3 @zHV)))) (aD (aD (aD @zLO @zFm) (aD @zMt @Tryz.underlying3)) (aD (aD @Tryz.underlying5 @Tryz.underlying22) (aD @Tryz.underlying25 (aD @Tryz.underlying29 @Tryz.underlying48))))))
def zDv:=(aD (aD (aD @zFS @zNN) (aD @zNO @zNP)) (aD (aD @zNQ @zDx) (aD @zQ3 (aD @zEl @zEj))))
theorem zQV (e:En)(h:Eng.Heap):ak aS 11 #[.int .i64 e.d,.int .i64 e.f,.int .i64 e.t,.int .i64 e.a] h (fun v h'=>v= .agg #[.int .i64 e.d,.int .i64 e.f,.int .i64 e.t,.int .i64 e.a]/\Ext h h'):=by
 (refine Rm Tryz.func11 rfl zPe ?_;simp only[Tryz.ntmps11,Tryz.results11,coreS,U1,splice,aC,af,Nat.reduceAdd,Nat.reduceSub,Nat.reduceMul,Nat.reduceLeDiff,Int.reduceEq,Nat.reduceEqDiff,zDv])
 exact(Ext.refl h).push _
theorem zMZ (wk:∀h,ak aS 7 #[] h (fun v h'=>v= .bool true/\Ext h h'))(S0 M0:Int)(a:Option Addr)(n c:Nat)(ws:List Mo.Wn)(b:Option Addr)(m d:Nat)(by_:List Int)(acct num:Int)(h:Eng.Heap)(hr:Row h a (Mo.wsV ws))(hn:n=ws.length)(hb:Row h b (pX by_))(hm:m=by_.length)(hby:∀x∈by_,0<=x/\x<=255)(hac:0<=acct/\acct<=255)(hnum:0<=num/\num<=255):
 ak aS 3 #[.agg #[.int .i64 S0,.int .i64 M0,.slice a n c],.slice b m d,.int .u8 acct,.int .u8 num] h (fun v h'=>v= .bool true/\Ext h h'):=by
 have l:∀(h':Eng.Heap) (K:Value->Eng.Heap->Prop),Ext h h'->(∀h'',Ext h h''->K (.bool true) h'')->ak aS 7 #[] h' K:=fun h' K x H=>ak.mono (wk h') fun v h'' q=>by
  obtain⟨rfl,x2⟩:=q;exact H _ (x.trans x2)
 (refine Rm Tryz.func3 rfl zQx ?_;simp only[Tryz.ntmps3,Tryz.results3,coreS,U1,splice,aC,af,Nat.reduceAdd,Nat.reduceSub,Nat.reduceMul,Nat.reduceLeDiff,Int.reduceEq,Nat.reduceEqDiff,TS])
 have x0:Ext h (h.push (.cells #[.int .i64 S0,.int .i64 M0,.slice a n c] 24)):=(Ext.refl h).push _;have hb0:=jD (h:=h) (o:= .cells #[.int .i64 S0,.int .i64 M0,.slice a n c] 24);generalize h.push (.cells #[.int .i64 S0,.int .i64 M0,.slice a n c] 24)=N at x0 hb0 ⊢;have wend:∀(h1:Eng.Heap) (K:Value->Eng.Heap->Prop),Ext h h1->(∀h2,Ext h h2->K (.bool true) h2)->ak aS 7 #[] h1 K:=l;refine⟨fun w1=> ?_,fun w1=> ?_⟩
 .refine l _ _ x0 fun h2 x=> ?_
  simp only[coreS,aC,af,Nat.reduceAdd,Nat.reduceSub,Nat.reduceMul,Nat.reduceLeDiff,Int.reduceEq,Nat.reduceEqDiff,TS];exact x
 refine ak.mono (Mo.zNE S0 M0 a n c ws N (hr.ext x0) hn) ?_;rintro v h1 ⟨rfl,x1⟩;have y1:=x0.trans x1;by_cases hc:Mo.chk S0 M0 ws=0
 case neg=>
  simp only[hc,decide_false,bJ,coreS,aC,af,Nat.reduceAdd,Nat.reduceSub,Nat.reduceMul,Nat.reduceLeDiff,Int.reduceEq,Nat.reduceEqDiff,TS];refine l _ _ y1 fun h2 x=> ?_
  simp only[coreS,aC,af,Nat.reduceAdd,Nat.reduceSub,Nat.reduceMul,Nat.reduceLeDiff,Int.reduceEq,Nat.reduceEqDiff,TS];exact x
 obtain⟨S,M,rfl,rfl,V⟩:=Mo.zDw hc;have b1:=x1.get hb0;have V1:=V.s1;have V2:=V.s2;have V3:=V.m1;have V4:=V.m2;have V5:=V.n;simp only[hc,b1,decide_true,bP,coreS,aC,af,Nat.reduceAdd,Nat.reduceSub,Nat.reduceMul,Nat.reduceLeDiff,Int.reduceEq,Nat.reduceEqDiff,TS];refine⟨by rw[zBS];omega,fun w2=> ?_,fun w2=> ?_⟩
 .refine l _ _ y1 fun h2 x=> ?_
  simp only[coreS,aC,af,Nat.reduceAdd,Nat.reduceSub,Nat.reduceMul,Nat.reduceLeDiff,Int.reduceEq,Nat.reduceEqDiff,TS];exact x
 refine ak.mono (Mo.zNR S M a n c ws b m d by_ h1 (hr.ext y1) hn V (hb.ext y1) hm hby (by omega)) ?_;rintro v h2 ⟨⟨G,cG,aG,rfl,OG,hGl,hGr,hG14⟩,x2⟩;have y2:=y1.trans x2;have b2:=x2.get b1;have IG:=OG.ints;simp only[b2,coreS,aC,af,Nat.reduceAdd,Nat.reduceSub,Nat.reduceMul,Nat.reduceLeDiff,Int.reduceEq,Nat.reduceEqDiff,TS];refine ak.mono (Mo.zIc S M a n c ws aG n cG (Mo.zsN G) h2 (hr.ext y2) hn (by omega) IG (by omega)) ?_;rintro v h3 ⟨rfl,x3⟩;have y3:=y2.trans x3;have b3:=x3.get b2;have hD:Mo.zF7 S M ws (Mo.zsN G)=0:=by
  unfold Mo.zF7;rw[if_neg (by simpa using hc),if_neg (by rw[Mo.zF4,hGl];omega),if_neg,if_pos]
  .unfold Mo.zGE;rw[Mo.zM4];exact hGr
  .have:Mo.inB 0 13 (Mo.zsN G)=true:=Mo.zKG.2 fun x hx=>by
    obtain⟨y,hy,rfl⟩:=bz.1 hx;have:=hG14 y hy;omega
   rw[this];simp
 rw[hD];simp only[b3,decide_true,bP,coreS,aC,af,Nat.reduceAdd,Nat.reduceSub,Nat.reduceMul,Nat.reduceLeDiff,Int.reduceEq,Nat.reduceEqDiff,TS];obtain⟨g,hGF⟩:∃g:Nat->Nat,g=fun j=>G.getD j 0:=⟨_,rfl⟩
 obtain⟨sh,hsh⟩:∃sh:Nat->Nat,sh=Mo.shN ws:=⟨_,rfl⟩;obtain⟨mo,O⟩:∃mo:Nat->Nat,mo=Mo.moN ws:=⟨_,rfl⟩;have hS:∀j,j<n->sh j<S:=fun j hj=>by rw[hsh];exact(V.s (by omega)).2
 have hM:∀j,j<n->mo j<M:=fun j hj=>by rw[O];exact(V.m (by omega)).2
 have hG:∀j,j<n->g j<14:=fun j hj=>by
  rw[hGF];show G.getD j 0<14;rw[aN,aF (by omega)];exact hG14 _ (List.getElem_mem _)
 have hz:∀j,(Mo.zsN G).getD j 0=((g j:Nat):Int):=fun j=>by
  rw[hGF];simp only[Mo.zsN,aN,List.getElem?_map];cases G[j]? <;>rfl
 have hzl:(Mo.zsN G).length=n:=by rw[Mo.zF4,hGl]
 have CK:=zNs (sh:=sh) (mo:=mo) (G:=g) (S:=S) (M:=M) (n:=n) V1 V3 (by omega) (by omega) hS hM hG;have eK:((S+M:Nat):Int)=(S:Int)+(M:Int):=by omega
 rw[eK]at CK;simp only[splice,eD,gL,bS,dC,bK,aZ,bL,coreS,aC,af,Nat.reduceAdd,Nat.reduceSub,Nat.reduceMul,Nat.reduceLeDiff,Int.reduceEq,Nat.reduceEqDiff,TS];refine⟨by rw[zBS];omega,?_⟩;refine Oy jD (by simp) fun h4 g4 u4=> ?_
 simp only[splice,eD,gL,bS,dC,bK,aZ,bL]at g4;have x4:Ext h3 h4:=u4.ext ((Ext.refl h3).push _) (Nat.le_refl _);simp only[coreS,aC,af,Nat.reduceAdd,Nat.reduceSub,Nat.reduceMul,Nat.reduceLeDiff,Int.reduceEq,Nat.reduceEqDiff,TS];refine zAi [8,13,14,15,67,68,69,70,71,72,73,74,75,76,77,78,79,80,81,82,83,84,85,86,87,88,89,90,91,92,93,94,95,96,97,98,99,100,101,102,103,104,105,106,107,108,109,110,111,112,113] (fun e h'=>Ext h3 h'/\∃i:Nat,i<=n/\e 13= .int .i64 i/\∃T cB,h'[h3.size]? =some (.cells #[.int .i64 ((S:Int)+(M:Int)),.int .i64 0,.slice T i cB] 35)/\Row h' T (zDA (wbk sh mo g S i))/\∀p,T=some p->p.block≠h3.size) (fun e _=>match e 13 with| .int _ q=>n-q.toNat|_=>0) ⟨x4,0,by omega,rfl,none,0,g4,.inl rfl,fun p u=>by cases u⟩ ?_;rintro e5 h5 ⟨x5,i,hi5,Z,T,cB,g5,RB,NB⟩;have IG5:=(IG.ext x3).ext x5;have y5:=y3.trans x5;have b5:=x5.get b3;by_cases hin:i<n
 case neg=>
  obtain rfl:i=n:=by omega
  have hge:¬((i:Int)<(i:Int)):=by omega
  obtain⟨L,hL⟩:∃L,L=wbk sh mo g S i:=⟨_,rfl⟩;have J:i=L.length:=by rw[hL,zEI]
  have hcL:=(CK i hi5).1;rw[<-hL]at RB hcL;obtain⟨day,hday,hdm⟩:∃day:Nat,num.tmod 15=(day:Int)/\day<=14:=by
   have h1:=Fx num (show(0:Int)<15 by omega);have h2:=KN 15 hnum.1;exact⟨(num.tmod 15).toNat,by omega,by omega⟩
  obtain⟨F,hwho,hwm⟩:∃F:Nat,acct.tmod ((S:Int)+(M:Int))=(F:Int)/\F<S+M:=by
   have h1:=Fx acct (show(0:Int)<(S:Int)+(M:Int) by omega);have h2:=KN ((S:Int)+(M:Int)) hac.1;exact⟨(acct.tmod ((S:Int)+(M:Int))).toNat,by omega,by omega⟩
  simp only[Z,hge,g5,hday,hwho,decide_false,coreS,aC,af,Nat.reduceAdd,Nat.reduceSub,Nat.reduceMul,Nat.reduceLeDiff,Int.reduceEq,Nat.reduceEqDiff,TS];have hRt:Mo.MB.right sh mo g i:=by
   have:=hGr;unfold Mo.MB.zEG at this;rw[hGl]at this;rw[hsh,O,hGF];exact this
  have hmE:zGZ ((S:Int)+(M:Int)) 0 F day day L=0:=by
   unfold zGZ;rw[if_neg (by simpa using hcL),if_neg (by omega),if_neg (by omega)]
  have hmR:(zJf ((S:Int)+(M:Int)) 0 F day day L).length<=1:=by
   unfold zJf;rw[if_pos hmE,hL];exact zM1 (zKW F hS hRt i (Nat.le_refl _))
  have Q:∀X:Int,0<=X/\X<=30->opn ((S:Int)+(M:Int)) 0 L [X]=0:=fun X hd=>zPP hcL hd
  have hBr:∀X:Int,0<=X/\X<=30->zI6 ((S:Int)+(M:Int)) 0 L X=zCd (S+M) L X:=fun X hd=>by
   rw[zI6,if_pos (Q X hd),show((S:Int)+(M:Int)).toNat=S+M by omega]
  refine⟨by rw[zBS];omega,by omega,by rw[zBS];omega,by omega,?_⟩;refine ak.mono (zN9 ((S:Int)+(M:Int)) 0 T i cB L F day day h5 RB J (by omega)) ?_;rintro v h6 ⟨⟨bm,mm,km,rfl,Im,hmm⟩,x6⟩;rw[hmE];have hmm1:¬((1:Int)<(mm:Int)):=by have:=Im.len;omega
  have b6:=x6.get b5;simp only[b6,coreS,aC,af,Nat.reduceAdd,Nat.reduceSub,Nat.reduceMul,Nat.reduceLeDiff,Int.reduceEq,Nat.reduceEqDiff,TS];refine ak.mono (Mo.zN0 S M a i c ws h6 (hr.ext (y5.trans x6)) hn (by omega)) ?_;rintro v h7 ⟨LP,x7⟩;obtain⟨p7,q7,rfl,hpq,hp0,hq0,u,hq⟩:=LP.ok S M rfl rfl V;have g7:=(x6.trans x7).get g5;simp only[g7,coreS,aC,af,Nat.reduceAdd,Nat.reduceSub,Nat.reduceMul,Nat.reduceLeDiff,Int.reduceEq,Nat.reduceEqDiff,TS];refine ak.mono (zGk ((S:Int)+(M:Int)) 0 T i cB L 14 h7 (RB.ext (x6.trans x7)) J (by omega)) ?_;rintro v h8 ⟨⟨b8,m8,k8,rfl,I8,hm8⟩,x8⟩;rw[Q 14 (by omega)];rw[hBr 14 (by omega)]at I8;have x58:=(x6.trans x7).trans x8;have g8:=x8.get g7;simp only[g8,coreS,aC,af,Nat.reduceAdd,Nat.reduceSub,Nat.reduceMul,Nat.reduceLeDiff,Int.reduceEq,Nat.reduceEqDiff,TS];refine ak.mono (zGk ((S:Int)+(M:Int)) 0 T i cB L day h8 (RB.ext x58) J (by omega)) ?_;rintro v h9 ⟨⟨b9,m9,k9,rfl,I9,hm9⟩,x9⟩;rw[Q day (by omega)];rw[hBr day (by omega)]at I9
  replace I8:=I8.ext x9
  have e8:=I8.len;have e9:=I9.len;rw[zCS]at e8 e9;subst e8 e9;have g9:=x9.get g8;have b9c:=(x58.trans x9).get b5;have y9:=(y5.trans x58).trans x9;simp only[hmm1,b9c,g9,eK,decide_true,decide_false,bP,bJ,coreS,aC,af,Nat.reduceAdd,Nat.reduceSub,Nat.reduceMul,Nat.reduceLeDiff,Int.reduceEq,Nat.reduceEqDiff,TS];have hwk:∀j,j<=i->∀e∈wls sh mo g S j,okE ((S+M:Nat):Int) e:=fun j hj e he=>by
   obtain⟨t,ht,rfl⟩:=bz.1 he;have:=List.mem_range.1 ht;exact(zMr (hS t (by omega)) (hM t (by omega)) (hG t (by omega))).1
  have hwb:∀j,j<=i->∀k:Int,-14000<=zDI (wls sh mo g S j) day k/\zDI (wls sh mo g S j) day k<=14000:=fun j hj k=>by
   have h1:=zDq day k (es:=wls sh mo g S j) (hwk j hj);have h2:(wls sh mo g S j).length=j:=by simp[wls]
   omega
  refine⟨by omega,by omega,by omega,by omega,?_⟩;have qC:(h9.push (.cells (List.replicate (S+M) [Value.int .i64 0]).flatten.toArray 2))[h9.size]? =some (.cells (ints (zCd (S+M) (wls sh mo g S 0) day)).toArray 2):=by
   rw[jD];unfold wls;rw[List.range_zero,List.map_nil,zGl];simp[ints]
  have eT:((S:Int)+(M:Int)).toNat=S+M:=by omega
  simp only[eT];refine zAi [28,197,198,199,200,201,202,203,204,205,206,207,208,209,210,211,212,213,214,215,216,217,218,219,220,221,222,223,224,225,226,227,228,229,230,231,232,233,234] (fun e h'=>Ext h9 h'/\∃j:Nat,j<=i/\e 28= .int .i64 j/\h'[h9.size]? =some (.cells (ints (zCd (S+M) (wls sh mo g S j) day)).toArray 2)) (fun e _=>match e 28 with| .int _ q=>i-q.toNat|_=>0) ⟨(Ext.refl h9).push _,0,by omega,rfl,qC⟩ ?_;rintro eA hA ⟨z,j,hjA,heA,gA⟩;have yA:=y9.trans z;have bAq:=z.get b9c;have gcA:=z.get g9;by_cases hji:j<i
  .have hlt2:(j:Int)<(i:Int):=by omega
   have IGA:=(IG5.ext (x58.trans x9)).ext z;have cg:=IGA.cell (j:=j) (by omega);rw[hz j]at cg;have sg:=IGA.isSome (by omega);have c0:=Mo.zGo (hr.ext yA) (i:=j) (by omega);have c1:=Mo.zFs (hr.ext yA) (i:=j) (by omega);rw[(V.s (i:=j) (by omega)).1,<-hsh]at c0;rw[(V.m (i:=j) (by omega)).1,<-O]at c1;have sa:=Mo.zEH hr (i:=j) (by omega);have ii:=hS j hji;have jj:=hM j hji;have kk:=hG j hji;have I:i-((j:Int)+1).toNat<i-(j:Int).toNat:=by omega
   simp only[heA,hlt2,cg,decide_true,aW,coreS,aC,af,Nat.reduceAdd,Nat.reduceSub,Nat.reduceMul,Nat.reduceLeDiff,Int.reduceEq,Nat.reduceEqDiff,TS];refine⟨by omega,sg,by rw[zBS];omega,fun hd=> ?_,fun hd=> ?_⟩
   .simp only[heA,bAq,c0,aW,coreS,aC,af,Nat.reduceAdd,Nat.reduceSub,Nat.reduceMul,Nat.reduceLeDiff,Int.reduceEq,Nat.reduceEqDiff,TS];refine⟨by omega,sa,?_⟩;rw[Mo.faR (hr.ext yA) (i:=j) (by omega)];have w1:=hwb j (by omega) (sh j:Nat);have w2:=hwb j (by omega) (S+mo j:Nat);rw[<-zCm (n:=S+M) _ _ (by omega)]at w1 w2;simp only[Nat.add_zero,c0,gA,Cn (zCd (S+M) (wls sh mo g S j) day) (sh j) (by rw[zCS];omega),aW,coreS,aC,af,Nat.reduceAdd,Nat.reduceSub,Nat.reduceMul,Nat.reduceLeDiff,Int.reduceEq,Nat.reduceEqDiff,TS];refine⟨by omega,rfl,by rw[zBS];omega,by omega,rfl,?_⟩;refine Oy gA (by simp[aR,zCS];omega) fun hB gB uB=> ?_
    rw[MN _ _ _ (by rw[aR,zCS];omega),ints_set]at gB;have s9:=yA.size;have s5:=y9.size;have slt:=bA gA;have hsz9:h.size<h9.size:=bA b9c;have yB:Ext h hB:=uB.ext yA (by omega);have bB:=uB.get bAq (by omega);have c1':=Mo.zFs (hr.ext yB) (i:=j) (by omega);rw[(V.m (i:=j) (by omega)).1,<-O]at c1';have h5:((zCd (S+M) (wls sh mo g S j) day).set (sh j) ((zCd (S+M) (wls sh mo g S j) day).getD (sh j) 0-1)).getD (S+mo j) 0=(zCd (S+M) (wls sh mo g S j) day).getD (S+mo j) 0:=by
     rw[zEP,if_neg (by omega)]
    have eJ:((S:Int)+((mo j:Nat):Int)).toNat=S+mo j:=by omega
    simp only[coreS,aC,af,Nat.reduceAdd,Nat.reduceSub,Nat.reduceMul,Nat.reduceLeDiff,Int.reduceEq,Nat.reduceEqDiff,TS];refine zB9 (by as_aux_lemma=>kernel_rfl) zBp [(0,0),(1,0),(2,0),(3,0),(4,0),(5,0),(6,0),(7,0),(8,0),(9,0),(10,0),(11,0),(12,0),(13,0),(14,1)] (by as_aux_lemma=>kernel_rfl) rfl (by as_aux_lemma=>kernel_rfl) ?_;simp only[bB,heA,aW,coreS,aC,af,Nat.reduceAdd,Nat.reduceSub,Nat.reduceMul,Nat.reduceLeDiff,Int.reduceEq,Nat.reduceEqDiff,drawS,TS];refine⟨by omega,sa,?_⟩;rw[Mo.faR (hr.ext yB) (i:=j) (by omega)];simp only[c1',gB,eJ,Cn ((zCd (S+M) (wls sh mo g S j) day).set (sh j) ((zCd (S+M) (wls sh mo g S j) day).getD (sh j) 0-1)) (S+mo j) (by simp[zCS];omega),aW,Ye,coreS,aC,af,Nat.reduceAdd,Nat.reduceSub,Nat.reduceMul,Nat.reduceLeDiff,Int.reduceEq,Nat.reduceEqDiff,drawS,TS];refine⟨by rw[zBS];omega,by omega,rfl,by rw[zBS,h5];omega,by omega,rfl,?_⟩;refine Oy gB (by simp[aR,zCS];omega) fun hC gC uC=> ?_
    rw[MN _ _ _ (by simp[aR,zCS];omega),ints_set]at gC;have gD:hC[h9.size]? =some (.cells (ints (zFU (zCd (S+M) (wls sh mo g S j) day) (sh j) (S+mo j) (wen sh mo g S j).a)).toArray 2):=gC;rw[zEZ (e:=wen sh mo g S j) (by unfold wen;simp only[];omega) rfl (by unfold wen;simp only[];omega) (by omega) (by omega),<-zFD]at gD;simp only[Ye,heA,coreS,aC,af,Nat.reduceAdd,Nat.reduceSub,Nat.reduceMul,Nat.reduceLeDiff,Int.reduceEq,Nat.reduceEqDiff,drawS,TS];refine⟨by rw[zBS];omega,Zr (by as_aux_lemma=>kernel_rfl) ⟨uC.ext (uB.ext z (by omega)) (by omega),j+1,by omega,rfl,gD⟩ I⟩
   .refine⟨by rw[zBS];omega,Zr (by as_aux_lemma=>kernel_rfl) ⟨z,j+1,by omega,rfl,?_⟩ I⟩;rw[zFD,zFr (by unfold wen;simp only[];omega)];exact gA
  have hge2:¬((j:Int)<(i:Int)):=by omega
  obtain rfl:j=i:=by omega
  simp only[heA,hge2,decide_false,coreS,aC,af,Nat.reduceAdd,Nat.reduceSub,Nat.reduceMul,Nat.reduceLeDiff,Int.reduceEq,Nat.reduceEqDiff,TS];refine zAi [8,29,235,236,237,238,239,240,241,242,243,244,245,246,247,248,249,250,251,252,253,254,255,256,257,258,259,260,261,262,263,264,265,266,267,268,269,270,271,272,273,274,275,276,277,278,279,280,281,282,283,284,285,286,287] (fun e h'=>Ext hA h'/\∃x:Nat,x<=S+M/\e 29= .int .i64 x) (fun e _=>match e 29 with| .int _ q=>S+M-q.toNat|_=>0) ⟨Ext.refl _,0,by omega,rfl⟩ ?_;rintro eX hX ⟨xX,x,hx,heX⟩;have gX:=xX.get gA;have bX:=xX.get bAq;have Y:=xX.get gcA;have xAX:=z.trans xX;have x7X:=(x8.trans x9).trans xAX;by_cases hxl:x<S+M
  .have hlt3:(x:Int)<(S:Int)+(M:Int):=by omega
   have I:S+M-((x:Int)+1).toNat<S+M-(x:Int).toNat:=by omega
   have k8c:=(I8.ext xAX).cell (j:=x) (by rw[zCS];exact hxl);have k9c:=(I9.ext xAX).cell (j:=x) (by rw[zCS];exact hxl);have s8:=I8.isSome (by rw[zCS];omega);have s9:=I9.isSome (by rw[zCS];omega);have eL:(zCd (S+M) (wls sh mo g S j) day).getD x 0=(zCd (S+M) L day).getD x 0:=by rw[hL,zMq]
   have gv:=Cn (zCd (S+M) (wls sh mo g S j) day) x (by rw[zCS];exact hxl);rw[eL]at gv;simp only[heX,Y,hlt3,decide_true,coreS,aC,af,Nat.reduceAdd,Nat.reduceSub,Nat.reduceMul,Nat.reduceLeDiff,Int.reduceEq,Nat.reduceEqDiff,TS];refine zBq [241,242,243,244,245,246,247,248,249,250,251,252,253,254,255,256,257,258,259,260,261,262,263,264,265,266,267,268,269,270,271,272,273,274,275,276,277,278,279,280,281,282,283,284,285,286,287] (fun e h'=>h'=hX/\e 287= .bool false) ?_ ?_
   .by_cases hxs:x<S
    .have hxs1:(x:Int)<(S:Int):=by omega
     have hxs2:¬((S:Int)<=(x:Int)):=by omega
     have hpX:=x7X.get u;have lv:=Mo.zEe (f:=Mo.shN ws) (S:=S) (i:=ws.length) hxs;have l8:(zCd (S+M) L 14).getD x 0= -((Mo.MB.load (Mo.shN ws) ws.length x:Nat):Int):=by
      rw[zCm _ _ hxl,hL,zGb,zJS x hxs j hG,hsh,hn]
     have ll:Mo.MB.load (Mo.shN ws) ws.length x<=ws.length:=Mo.MB.zGr _ _;rw[l8]at k8c;refine zB9 (by as_aux_lemma=>kernel_rfl) zBp [(0,0),(1,0),(2,0),(3,0),(4,0),(5,0),(6,0),(7,0),(8,0),(9,0),(10,0),(11,0),(12,0),(13,0),(14,0),(15,0),(16,0),(17,0),(18,0),(19,0),(20,0),(21,0),(22,0),(23,0),(24,0),(25,0),(26,0),(27,0),(28,0),(29,0),(30,0),(31,0),(32,0),(33,0),(34,0),(35,0),(36,0),(37,0),(38,0),(39,0),(40,0),(41,0),(42,0),(43,0),(44,0),(45,0),(46,0)] (by as_aux_lemma=>kernel_rfl) rfl (by as_aux_lemma=>kernel_rfl) ?_;simp only[heX,Y,bX,gX,hpX,k8c,k9c,gv,lv,hxs1,hxs2,decide_true,decide_false,aW,Ye,coreS,aC,af,Nat.reduceAdd,Nat.reduceSub,Nat.reduceMul,Nat.reduceLeDiff,Int.reduceEq,Nat.reduceEqDiff,drawS,TS];refine⟨by omega,s9,by omega,rfl,by omega,s8,by omega,rfl,by rw[zBS];omega,?_⟩;have e0: -((Mo.MB.load (Mo.shN ws) ws.length x:Nat):Int)=0-((Mo.MB.load (Mo.shN ws) ws.length x:Nat):Int):=by omega
     simp only[e0,decide_true,bP,coreS,aC,af,Nat.reduceAdd,Nat.reduceSub,Nat.reduceMul,Nat.reduceLeDiff,Int.reduceEq,Nat.reduceEqDiff,drawS,TS];exact zBX (by as_aux_lemma=>kernel_rfl) ⟨rfl,rfl⟩
    .have hxs1:¬((x:Int)<(S:Int)):=by omega
     have hxs2:(S:Int)<=(x:Int):=by omega
     obtain⟨t,rfl⟩:∃t,x=S+t:=⟨x-S,by omega⟩;have hqX:=x7X.get hq;have lv:=Mo.zEe (f:=Mo.moN ws) (S:=M) (i:=ws.length) (x:=t) (by omega);have l8:(zCd (S+M) L 14).getD (S+t) 0=((Mo.MB.load (Mo.moN ws) ws.length t:Nat):Int):=by
      rw[zCm _ _ hxl,hL,zGb,zHw t j hG hS,O,hn]
     have ll:Mo.MB.load (Mo.moN ws) ws.length t<=ws.length:=Mo.MB.zGr _ _;have eS:(((S+t:Nat):Int)-(S:Int)).toNat=t:=by omega
     rw[l8]at k8c;refine zB9 (by as_aux_lemma=>kernel_rfl) zBp [(0,0),(1,0),(2,0),(3,0),(4,0),(5,0),(6,0),(7,0),(8,0),(9,0),(10,0),(11,0),(12,0),(13,0),(14,0),(15,0),(16,0),(17,0),(18,0),(19,0),(20,0),(21,0),(22,0),(23,0),(24,0),(25,0),(26,0),(27,0),(28,0),(29,0),(30,0),(31,0),(32,0),(33,0),(34,0),(35,0),(36,0),(37,0),(38,0),(39,0),(40,0),(41,0),(42,0),(43,0),(44,0),(45,0),(46,0)] (by as_aux_lemma=>kernel_rfl) rfl (by as_aux_lemma=>kernel_rfl) ?_;simp only[heX,Y,bX,gX,hqX,k8c,k9c,gv,lv,eS,hxs1,hxs2,decide_true,decide_false,aW,Ye,coreS,aC,af,Nat.reduceAdd,Nat.reduceSub,Nat.reduceMul,Nat.reduceLeDiff,Int.reduceEq,Nat.reduceEqDiff,drawS,TS];refine⟨by omega,s9,by omega,rfl,by omega,s8,by rw[zBS];omega,by omega,rfl,?_⟩;exact zBX (by as_aux_lemma=>kernel_rfl) ⟨rfl,rfl⟩
   rintro e7 h7' ⟨rfl,e287⟩;simp only[e287,heX,coreS,aC,af,Nat.reduceAdd,Nat.reduceSub,Nat.reduceMul,Nat.reduceLeDiff,Int.reduceEq,Nat.reduceEqDiff,TS];exact⟨by rw[zBS];omega,Zr (by as_aux_lemma=>kernel_rfl) ⟨xX,x+1,by omega,rfl⟩ I⟩
  have hge3:¬((x:Int)<(S:Int)+(M:Int)):=by omega
  have RX:=(((RB.ext x58).ext x9).ext z).ext xX;have yX:=yA.trans xX;simp only[heX,Y,hge3,decide_false,coreS,aC,af,Nat.reduceAdd,Nat.reduceSub,Nat.reduceMul,Nat.reduceLeDiff,Int.reduceEq,Nat.reduceEqDiff,TS];refine ak.mono (zPS ((S:Int)+(M:Int)) 0 T j cB L day hX RX J (by omega)) ?_;rintro v hE ⟨PP,A⟩;rcases PP with⟨_,aP,cP,Sg,ps,rfl,RP,hpm,hpt,D⟩|⟨h0,_⟩
  case inr=>exact absurd (Q day (by omega)) h0
  rw[eT]at RP ⊢;have hpy:=zHm (k:=S+M) (cl:=0) (es:=L) (day:=day) (by rw[eK];exact Q day (by omega)) hpm hpt D;obtain⟨PS,hPS⟩:∃PS,PS=zDk (l8 L day) (S+M) Sg:=⟨_,rfl⟩;rw[<-hPS]at RP hpy ⊢;rw[eK]at hpy;have gcE:=A.get Y;simp only[gcE,coreS,aC,af,Nat.reduceAdd,Nat.reduceSub,Nat.reduceMul,Nat.reduceLeDiff,Int.reduceEq,Nat.reduceEqDiff,TS];refine ak.mono (zLq ((S:Int)+(M:Int)) 0 T j cB L day hE (RX.ext A) J (by omega)) ?_;rintro v hF ⟨HF,B⟩;rcases HF with⟨_,j1,M1,hj1,rfl⟩|⟨h0,_⟩
  case inr=>exact absurd (Q day (by omega)) h0
  have gcF:=B.get gcE;simp only[gcF,coreS,aC,af,Nat.reduceAdd,Nat.reduceSub,Nat.reduceMul,Nat.reduceLeDiff,Int.reduceEq,Nat.reduceEqDiff,TS];refine ak.mono (zPR ((S:Int)+(M:Int)) 0 T j cB L day aP PS.length cP PS hF ((RX.ext A).ext B) J (by omega) (RP.ext B) rfl ?_) ?_
  .have:=(zOs (by rw[hpy.1])).2.1;omega
  rintro v hH ⟨rfl,R⟩;have ej:Sg.length=j1:=by
   have q1:j1<=Sg.length:=by
    rcases M1.is with h|h
    .omega
    .exact D.le _ h
   have q2:Sg.length<=j1:=by
    rcases D.is with h|h
    .omega
    .exact M1.le _ h
   omega
  have yH:=((yX.trans A).trans B).trans R;have eq:((PS.length:Nat):Int)=((LS.opens (l8 L day) 8:Nat):Int)-(j1:Int):=by have:=hpy.2;omega
  rw[zFO,hpy.1];simp only[eq,decide_true,coreS,aC,af,Nat.reduceAdd,Nat.reduceSub,Nat.reduceMul,Nat.reduceLeDiff,Int.reduceEq,Nat.reduceEqDiff,TS];refine l _ _ yH fun h'' x=> ?_
  simp only[coreS,aC,af,Nat.reduceAdd,Nat.reduceSub,Nat.reduceMul,Nat.reduceLeDiff,Int.reduceEq,Nat.reduceEqDiff,TS];exact x
 have hlt:(i:Int)<(n:Int):=by omega
 have cg:=IG5.cell (j:=i) (by omega);rw[hz i]at cg;have sg:=IG5.isSome (by omega);have c0:=Mo.zGo (hr.ext y5) (i:=i) (by omega);have c1:=Mo.zFs (hr.ext y5) (i:=i) (by omega);rw[(V.s (i:=i) (by omega)).1,<-hsh]at c0;rw[(V.m (i:=i) (by omega)).1,<-O]at c1;have sa:=Mo.zEH hr (i:=i) (by omega);have ii:=hS i hin;have jj:=hM i hin;have kk:=hG i hin;obtain⟨w,hen⟩:∃w:En,w=wen sh mo g S i:=⟨_,rfl⟩;have hp0:pst ((S:Int)+(M:Int)) 0 (wbk sh mo g S i) w=0:=by rw[hen];exact(CK i hi5).2 hin
 have he1:∀N,ak aS 11 #[.int .i64 (1+((g i:Nat):Int)),.int .i64 ((sh i:Nat):Int),.int .i64 ((S:Int)+((mo i:Nat):Int)),.int .i64 1] N (fun v h'=>v= .agg #[.int .i64 w.d,.int .i64 w.f,.int .i64 w.t,.int .i64 w.a]/\Ext N h'):=fun N=>by
  have:=zQV w N;rw[hen]at this ⊢;exact this
 have E:∀N,Ext h5 N->ak aS 10 #[.agg #[.int .i64 ((S:Int)+(M:Int)),.int .i64 0,.slice T i cB],.agg #[.int .i64 w.d,.int .i64 w.f,.int .i64 w.t,.int .i64 w.a]] N (fun v h'=>(∃C U,v= .tuple #[.agg #[.int .i64 ((S:Int)+(M:Int)),.int .i64 0,.slice C (i+1:Nat) U],.int .i64 0]/\Row h' C (zDA (wbk sh mo g S (i+1)))/\∀p,C=some p->N.size<=p.block)/\Ext N h'):=fun N xh=>by
  refine ak.mono (zPU ((S:Int)+(M:Int)) 0 T i cB (wbk sh mo g S i) w N (RB.ext xh) (by rw[zEI]) (by omega)) ?_;rintro v h' ⟨⟨C,n',U,rfl,hR,hn',hb'⟩,x'⟩;have e1:zIW ((S:Int)+(M:Int)) 0 (wbk sh mo g S i) w=(S:Int)+(M:Int):=by rw[zIW,if_pos hp0]
  have e2:zIX ((S:Int)+(M:Int)) 0 (wbk sh mo g S i) w=0:=by rw[zIX,if_pos hp0]
  have e3:zFQ ((S:Int)+(M:Int)) 0 (wbk sh mo g S i) w=wbk sh mo g S (i+1):=by rw[zFQ,if_pos hp0,hen,wbk]
  rw[e3]at hR hn';rw[zEI]at hn';subst hn';rw[e1,e2,hp0];exact⟨⟨C,U,rfl,hR,hb'⟩,x'⟩
 simp only[Z,hlt,decide_true,coreS,aC,af,Nat.reduceAdd,Nat.reduceSub,Nat.reduceMul,Nat.reduceLeDiff,Int.reduceEq,Nat.reduceEqDiff,TS];refine zBq [14,15,73,74,75,76,77,78,79,80,81,82,83,84,85,86,87,88,89,90,91,92,93,94,95,96,97,98] (fun e h'=>Ext h5 h'/\e 15= .int .i64 0/\∃q C U,e 14= .pointer (some ⟨q,0,none⟩)/\h5.size<=q/\h'[q]? =some (.cells #[.int .i64 ((S:Int)+(M:Int)),.int .i64 0,.slice C (i+1:Nat) U] 35)/\Row h' C (zDA (wbk sh mo g S (i+1)))/\∀p,C=some p->h5.size<=p.block) ?_ ?_
 .
  refine zB7 (by as_aux_lemma=>kernel_rfl) zBc (.quiet 0 (.quiet 1 (.quiet 2 (.quiet 3 (.quiet 4 (.quiet 5 (.quiet 6 (.quiet 7 (.quiet 8 (.quiet 9 (.quiet 10 (.quiet 11 (.quiet 12 (.quiet 13 (.quiet 14 (.quiet 15 (.quiet 16 (.quiet 17 (.quiet 18 (.quiet 19 (.quiet 20 (.yo 21 26 true true (.yo 22 26 true true (.quiet 23 (.quiet 24 (.pure 25 (.keep 26 (.one 27 (.quiet 28 (.fin))))))) (.keep 22 (.quiet 23 (.quiet 24 (.pure 25 (.one 27 (.quiet 28 (.fin)))))))) (.keep 21 (.keep 22 (.quiet 23 (.quiet 24 (.pure 25 (.one 27 (.quiet 28 (.fin)))))))))))))))))))))))))))))) (by as_aux_lemma=>kernel_rfl) rfl (by as_aux_lemma=>kernel_rfl) ?_;simp only[g5,Z,b5,cg,c0,c1,aW,coreS,aC,af,Nat.reduceAdd,Nat.reduceSub,Nat.reduceMul,Nat.reduceLeDiff,Int.reduceEq,Nat.reduceEqDiff,drawS,treeS,TS];refine⟨by omega,sg,by rw[zBS];omega,by omega,sa,?_⟩;rw[Mo.faR (hr.ext y5) (i:=i) (by omega)];simp only[Nat.add_zero,c0,b5,Z,aW,coreS,aC,af,Nat.reduceAdd,Nat.reduceSub,Nat.reduceMul,Nat.reduceLeDiff,Int.reduceEq,Nat.reduceEqDiff,drawS,treeS,TS];refine⟨by omega,sa,?_⟩;rw[Mo.faR (hr.ext y5) (i:=i) (by omega)];simp only[c1,coreS,aC,af,Nat.reduceAdd,Nat.reduceSub,Nat.reduceMul,Nat.reduceLeDiff,Int.reduceEq,Nat.reduceEqDiff,drawS,treeS,TS];refine⟨by rw[zBS];omega,?_⟩;refine Xh fun hA z=>⟨?_,?_⟩
  .simp only[coreS,aC,af,Nat.reduceAdd,Nat.reduceSub,Nat.reduceMul,Nat.reduceLeDiff,Int.reduceEq,Nat.reduceEqDiff,drawS,treeS,TS];refine ak.mono (he1 hA) ?_;rintro v hB ⟨rfl,xB⟩;refine⟨xB,?_⟩;refine Xh fun hC xC=>⟨?_,?_⟩
   .simp only[coreS,aC,af,Nat.reduceAdd,Nat.reduceSub,Nat.reduceMul,Nat.reduceLeDiff,Int.reduceEq,Nat.reduceEqDiff,drawS,treeS,TS];refine ak.mono (E hC ((z.trans xB).trans xC)) ?_;rintro v hD ⟨⟨C,U,rfl,R',N'⟩,xD⟩;refine⟨xD,?_⟩;simp only[coreS,aC,af,Nat.reduceAdd,Nat.reduceSub,Nat.reduceMul,Nat.reduceLeDiff,Int.reduceEq,Nat.reduceEqDiff,drawS,treeS,TS];refine YD fun hE A=> ?_
    simp only[coreS,aC,af,Nat.reduceAdd,Nat.reduceSub,Nat.reduceMul,Nat.reduceLeDiff,Int.reduceEq,Nat.reduceEqDiff,drawS,treeS,TS];refine⟨(Ext.refl hE).push _,?_⟩;refine Zk fun hF B=> ?_
    have qF:=B.get jD;simp only[qF,coreS,aC,af,Nat.reduceAdd,Nat.reduceSub,Nat.reduceMul,Nat.reduceLeDiff,Int.reduceEq,Nat.reduceEqDiff,drawS,treeS,TS];refine Oy qF (by simp) fun hG gG uG=> ?_
    simp only[splice,eD,gL,bS,dC,bK,aZ,bL]at gG;refine zAN fun hH R=> ?_
    have x5E:=((z.trans xB).trans xC).trans (xD.trans A);have sE:=x5E.size;simp only[Gd];have s0:=((z.trans xB).trans xC).size;exact zBX (by as_aux_lemma=>kernel_rfl) ⟨(uG.ext (x5E.trans B.zBe) (by omega)).trans R,rfl,hE.size,C,U,rfl,sE,R.get gG,R'.ext ((uG.ext (A.trans B.zBe) A.size).trans R),fun p u=>by have:=N' p u;omega⟩
   .simp only[coreS,aC,af,Nat.reduceAdd,Nat.reduceSub,Nat.reduceMul,Nat.reduceLeDiff,Int.reduceEq,Nat.reduceEqDiff,drawS,treeS,TS];refine⟨(Ext.refl hC).push _,?_⟩;refine YD fun hD xD=> ?_
    simp only[coreS,aC,af,Nat.reduceAdd,Nat.reduceSub,Nat.reduceMul,Nat.reduceLeDiff,Int.reduceEq,Nat.reduceEqDiff,drawS,treeS,TS];have x5D:=((z.trans xB).trans xC).trans xD.zBe;refine ak.mono (E hD x5D) ?_;rintro v hE ⟨⟨C,U,rfl,R',N'⟩,A⟩;refine⟨A,?_⟩;simp only[coreS,aC,af,Nat.reduceAdd,Nat.reduceSub,Nat.reduceMul,Nat.reduceLeDiff,Int.reduceEq,Nat.reduceEqDiff,drawS,treeS,TS];refine Zk fun hF B=> ?_
    have qF:=B.get (A.get (xD.get jD));simp only[qF,coreS,aC,af,Nat.reduceAdd,Nat.reduceSub,Nat.reduceMul,Nat.reduceLeDiff,Int.reduceEq,Nat.reduceEqDiff,drawS,treeS,TS];refine Oy qF (by simp) fun hG gG uG=> ?_
    simp only[splice,eD,gL,bS,dC,bK,aZ,bL]at gG;refine zAN fun hH R=> ?_
    have s0:=((z.trans xB).trans xC).size;have s1:=xD.size;rw[Rh]at s1;simp only[Gd];exact zBX (by as_aux_lemma=>kernel_rfl) ⟨(uG.ext ((x5D.trans A).trans B) (by omega)).trans R,rfl,hC.size,C,U,rfl,s0,R.get gG,(zDy (R'.ext B) uG fun p u=>by have:=N' p u;omega).ext R,fun p u=>by have:=N' p u;omega⟩
  .simp only[coreS,aC,af,Nat.reduceAdd,Nat.reduceSub,Nat.reduceMul,Nat.reduceLeDiff,Int.reduceEq,Nat.reduceEqDiff,drawS,treeS,TS];refine⟨(Ext.refl hA).push _,?_⟩;refine YD fun hB xB=> ?_
   simp only[coreS,aC,af,Nat.reduceAdd,Nat.reduceSub,Nat.reduceMul,Nat.reduceLeDiff,Int.reduceEq,Nat.reduceEqDiff,drawS,treeS,TS];refine ak.mono (he1 hB) ?_;rintro v hC ⟨rfl,xC⟩;refine⟨xC,?_⟩
   try simp only[coreS,aC,af,Nat.reduceAdd,Nat.reduceSub,Nat.reduceMul,Nat.reduceLeDiff,Int.reduceEq,Nat.reduceEqDiff,drawS,treeS,TS]
   refine YD fun hD xD=> ?_
   simp only[coreS,aC,af,Nat.reduceAdd,Nat.reduceSub,Nat.reduceMul,Nat.reduceLeDiff,Int.reduceEq,Nat.reduceEqDiff,drawS,treeS,TS];have x5D:=((z.trans xB.zBe).trans xC).trans xD;refine ak.mono (E hD x5D) ?_;rintro v hE ⟨⟨C,U,rfl,R',N'⟩,A⟩;refine⟨A,?_⟩;simp only[coreS,aC,af,Nat.reduceAdd,Nat.reduceSub,Nat.reduceMul,Nat.reduceLeDiff,Int.reduceEq,Nat.reduceEqDiff,drawS,treeS,TS];refine Zk fun hF B=> ?_
   have qF:=B.get (A.get (xD.get (xC.get (xB.get jD))));simp only[qF,coreS,aC,af,Nat.reduceAdd,Nat.reduceSub,Nat.reduceMul,Nat.reduceLeDiff,Int.reduceEq,Nat.reduceEqDiff,drawS,treeS,TS];refine Oy qF (by simp) fun hG gG uG=> ?_
   simp only[splice,eD,gL,bS,dC,bK,aZ,bL]at gG;refine zAN fun hH R=> ?_
   have s0:=z.size;have s1:=xB.size;have s2:=xC.size;have s3:=xD.size;rw[Rh]at s1;simp only[Gd];exact zBX (by as_aux_lemma=>kernel_rfl) ⟨(uG.ext ((x5D.trans A).trans B) (by omega)).trans R,rfl,hA.size,C,U,rfl,s0,R.get gG,(zDy (R'.ext B) uG fun p u=>by have:=N' p u;omega).ext R,fun p u=>by have:=N' p u;omega⟩
 rintro e6 h6 ⟨x6,e15,q,aQ,cQ',e14,hq,gq,RQ,NQ⟩;simp only[e15,e14,gq,decide_true,decide_false,bP,bJ,coreS,aC,af,Nat.reduceAdd,Nat.reduceSub,Nat.reduceMul,Nat.reduceLeDiff,Int.reduceEq,Nat.reduceEqDiff,TS];refine ak.mono (zIE ((S:Int)+(M:Int)) 0 aQ (i+1) cQ' (wbk sh mo g S (i+1)) h6 RQ (by rw[zEI]) (by omega)) ?_;rintro v h7 ⟨rfl,x7⟩;rw[(CK (i+1) (by omega)).1];have g7:=(x6.trans x7).get g5;have q7:=x7.get gq;have sq:=bA g5;simp only[e14,e15,q7,g7,decide_true,decide_false,bP,bJ,coreS,aC,af,Nat.reduceAdd,Nat.reduceSub,Nat.reduceMul,Nat.reduceLeDiff,Int.reduceEq,Nat.reduceEqDiff,TS];refine Oy g7 (by simp) fun h8 g8 u8=> ?_
 simp only[splice,eD,gL,bS,dC,bK,aZ,bL]at g8;simp only[Z,coreS,aC,af,Nat.reduceAdd,Nat.reduceSub,Nat.reduceMul,Nat.reduceLeDiff,Int.reduceEq,Nat.reduceEqDiff,TS];refine⟨by rw[zBS];omega,Zr (by as_aux_lemma=>kernel_rfl) ⟨u8.ext (x5.trans (x6.trans x7)) (Nat.le_refl _),i+1,by omega,rfl,aQ,cQ',g8,zDy (RQ.ext x7) u8 (fun p u=>by have:=NQ p u;omega),fun p u=>by have:=NQ p u;omega⟩ ?_⟩;show n-((i:Int)+1).toNat<n-(i:Int).toNat;omega
end Go.Proofs.YtejmkibjpaoahaaGreatDoor
namespace Go.Proofs.YtejmkibjpaoahaaGreatDoor
open Go Go.Proofs Go.Eng Go.Run
theorem zQp (S0 M0:Int)(a:Option Addr)(n c:Nat)(ws:List Mo.Wn)(b:Option Addr)(m d:Nat)(by_:List Int)(acct num:Int)(h:Eng.Heap)(hr:Row h a (Mo.wsV ws))(hn:n=ws.length)(hm:m=by_.length/\m<=d)(hb:Row h b (pX by_))(_:m<=9223372036854775807)(hby:∀x∈by_,0<=x/\x<=255)(hac:0<=acct/\acct<=255)(hnum:0<=num/\num<=255):
 ak aS 3 #[.agg #[.int .i64 S0,.int .i64 M0,.slice a n c],.slice b m d,.int .u8 acct,.int .u8 num] h (fun v h'=>v= .bool true/\Ext h h'):=zMZ Ws.works7 S0 M0 a n c ws b m d by_ acct num h hr hn hb hm.1 hby hac hnum
end Go.Proofs.YtejmkibjpaoahaaGreatDoor
namespace Go.Proofs.YtejmkibjpaoahaaGreatDoor.Mo
open Go Go.Proofs Go.Eng Tab Go.ChangeShapes Go.WideShapes Go.ChangeAt Go.RowKit
theorem row_of {W:World}{a:Addr}{vs:List Value}(hc:∀i (hi:i<vs.length),W.cell? (a.add i)=some vs[i]):Row W.heap (some a) vs:=by
 by_cases z:vs.length=0
 .left;exact List.eq_nil_of_length_eq_zero z
 right;have k:∀i u,W.cell? (a.add i)=some u->(i=0->a.spot=none)/\∃c l n,W.heap[a.block]? =some (.cells c l n)/\c[a.off+i]? =some u:=by
  intro i u j;unfold World.cell? Addr.add at j;by_cases hi:i=0
  .subst hi;simp only[if_true]at j;split at j<;>simp_all
  .simp only[hi,if_false]at j;split at j<;>simp_all
 obtain⟨f,c,l,n,o,_⟩:=k 0 _ (hc 0 (by omega));have e:∀i (hi:i<vs.length),c[a.off+i]? =some vs[i]:=fun i hi=>by
  obtain⟨_,t,x,y,g,p⟩:=k i _ (hc i hi);rw[o]at g;cases g;exact p
 have h:a.off+vs.length<=c.size:=by
  have:=e (vs.length-1) (by omega);have:=(Array.getElem?_eq_some_iff.1 this).1;omega
 obtain⟨b,q,w⟩:=a
 replace f:=f rfl
 simp only at f o e h;subst f;refine⟨b,q,c,l,n,rfl,o,h,?_⟩;apply List.ext_getElem?;intro i;rw[kE,lh];by_cases hi:i<vs.length
 .rw[if_pos hi,Array.getElem?_toList,e i hi,aF hi]
 .rw[if_neg hi,List.getElem?_eq_none (by omega)]
theorem Jq {α:Type}{p:Nat->α->Prop}:∀n,(∀i<n,∃x,p i x)->∃l:List α,l.length=n/\∀i (hi:i<l.length),p i l[i]
 |0,_=>⟨[],rfl,fun i hi=>by simp at hi⟩
 |n+1,H=>by
  obtain⟨l,b,h⟩:=Jq n fun i hi=>H i (by omega)
  obtain⟨x,c⟩:=H n (by omega);refine⟨l++[x],by simp[b],fun i hi=> ?_⟩;by_cases a:i<l.length
  .rw[List.getElem_append_left a];exact h i a
  .have:i=l.length:=by simp at hi;omega
   subst this;rw[List.getElem_append_right (Nat.le_refl _)];simpa[b]using c
section opens
variable {H:Type}{enc:TypeId×Value->H}{W:World}{base b0:Nat}{r:Reach}{sp:Nat->Bool}{held:Bool}{v:Value}{d:DataW H}{ps:List MemPlace}
theorem zQR:Tryz.prog.cellsOf 3=1:=by kernel_rfl
theorem zQP:Tryz.prog.cellsOf 22=1:=by kernel_rfl
theorem zQQ:Tryz.prog.cellsOf 24=3:=by kernel_rfl
theorem zOE:Tryz.prog.cellsOf 42=2:=by kernel_rfl
theorem zP3 (es:List Wn)(j k:Nat)(hj:j<es.length)(hk:k<2):(wsV es)[j*2+k]? =(wnV es[j])[k]? :=by
 have h:=zGc es j hj;have:(((wsV es).drop (j*2)).take 2)[k]? =(wnV es[j])[k]? :=by rw[h]
 rwa[kE,if_pos hk,lh]at this
theorem zNp {fuel:Nat}{cs:List Value}{x:DataW H×List MemPlace}(h:xR enc aS W base sp held fuel 42 cs=some x):∃e:Wn,cs=wnV e:=by
 obtain⟨q,n,rfl,rfl,p,g,o⟩:=GL Tryz.underlying42 h;rw[zOE]at p;obtain⟨a,b,rfl⟩:∃a b,cs=[a,b]:=by
  match cs,p with
  |[a,b],_=>exact⟨_,_,rfl⟩
 obtain⟨c,f,rfl⟩:∃c f,q=[c,f]:=by
  match q,g with
  |[c,f],_=>exact⟨_,_,rfl⟩
 have k:xR enc aS W base sp held n 3 (([a,b].drop 0).take (Tryz.prog.cellsOf 3))=some c:=o 0 _ rfl;have l:xR enc aS W base sp held n 3 (([a,b].drop 1).take (Tryz.prog.cellsOf 3))=some f:=o 1 _ rfl;rw[zQR]at k l;obtain⟨t,i,_,w⟩:=yQ pE k;obtain⟨u,j,_,y⟩:=yQ pE l;simp at i j;subst i j;exact⟨⟨t,u⟩,rfl⟩
theorem zMk {fuel:Nat}{cs:List Value}{x:DataW H×List MemPlace}(h:xR enc aS W base sp held fuel 22 cs=some x):∃a n c es,cs=[.slice a n c]/\Row W.heap a (wsV es)/\n=es.length:=by
 rcases DataW.trod_slice Tryz.underlying22 h with⟨rfl,_⟩|⟨a,b,l,o,rest,m,rfl,rfl,rfl,B,C,D,u,j,_,_⟩
 .exact⟨none,0,0,[],rfl,.inl rfl,rfl⟩
 rw[zOE]at j;have f:∀i,i<b->∃e:Wn,∀k (t:k<2),W.cell? (a.add (i*2+k))=(wnV e)[k]? :=by
  intro i q;have g:=j i q;rw[aF (by omega),Option.bind_eq_some_iff]at g;obtain⟨cs,w,y⟩:=g;obtain⟨e,rfl⟩:=zNp y;refine⟨e,fun k t=> ?_⟩;have z:=(World.cells?_some w).2.2 k t;rw[<-z];congr 1;unfold Addr.add;split<;>split<;>split<;>simp_all<;>omega
 obtain⟨es,p,A⟩:=Jq b f;refine⟨some a,b,l,es,rfl,row_of fun i q=> ?_,p.symm⟩;rw[zDd]at q;have g:=A (i/2) (by omega) (i % 2) (by omega);rw[show i/2*2+i % 2=i by omega]at g;rw[g,<-zP3 es (i/2) (i % 2) (by omega) (by omega),show i/2*2+i % 2=i by omega,aF (by rw[zDd];omega)]
theorem zP6 (hval:Value.okWide aS W r b0 24 v)(hd:DataW.Trod enc aS W base sp held 24 v d ps):∃ac cl a n c es,v= .agg #[.int .i64 ac,.int .i64 cl,.slice a n c]/\Row W.heap a (wsV es)/\n=es.length:=by
 obtain⟨cs,rfl,D⟩:=okWide_struct HY hval;obtain⟨x,b⟩:=hd;obtain⟨y,n,rfl,_,h,l,b⟩:=GL HY b;rw[zQQ]at h;simp only[aC]at h b;obtain⟨cs⟩:=cs;simp only at h b;obtain⟨e,f,g,rfl⟩:∃e f g,cs=[e,f,g]:=by
  match cs,h with
  |[e,f,g],_=>exact⟨_,_,_,rfl⟩
 obtain⟨i,j,k,rfl⟩:∃i j k,y=[i,j,k]:=by
  match y,l with
  |[i,j,k],_=>exact⟨_,_,_,rfl⟩
 have t:xR enc aS W base sp held n 3 (([e,f,g].drop 0).take (Tryz.prog.cellsOf 3))=some i:=b 0 _ rfl;have u:xR enc aS W base sp held n 3 (([e,f,g].drop 1).take (Tryz.prog.cellsOf 3))=some j:=b 1 _ rfl;have w:xR enc aS W base sp held n 22 (([e,f,g].drop 2).take (Tryz.prog.cellsOf 22))=some k:=b 2 _ rfl;rw[zQR]at t u;rw[zQP]at w;obtain⟨B,o,_,E⟩:=yQ pE t;obtain⟨C,p,_,F⟩:=yQ pE u;obtain⟨a,m,c,es,q,A,z⟩:=zMk w;simp at o p q;subst o p q;exact⟨B,C,a,m,c,es,rfl,A,z⟩
end opens
end Go.Proofs.YtejmkibjpaoahaaGreatDoor.Mo
