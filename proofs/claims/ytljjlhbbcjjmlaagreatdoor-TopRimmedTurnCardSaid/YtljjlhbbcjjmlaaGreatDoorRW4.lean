/- The statement on rims and turns. No condition. -/
import Derived.Test.YtljjlhbbcjjmlaaGreatDoorRW3
import Derived.Test.YtljjlhbbcjjmlaaGreatDoorRL2
import Derived.Test.YtljjlhbbcjjmlaaGreatDoorEngO
import Derived.Test.YtljjlhbbcjjmlaaGreatDoorEngX
namespace Go.Proofs.YtljjlhbbcjjmlaaGreatDoor
open Go Go.Proofs Go.Eng Go.Run Tab RL
set_option maxRecDepth 100000
set_option linter.unusedSimpArgs false
set_option linter.unusedVariables false
set_option linter.defProp false
set_option maxHeartbeats 2000000
set_option linter.defProp false
def YtljjlhbbcjjmlaaGreatDoorRW4Fs3:=(And.intro (And.intro (And.intro @agg3 (And.intro @agg5 @by3)) (And.intro @by5 (And.intro @inf3 @inf5))) (And.intro (And.intro @sz3 (And.intro @sz5 @zero3)) (And.intro (And.intro @Tryz.underlying3 @Tryz.underlying5) (And.intro @Tryz.underlying22 @Tryz.underlying25))))
def YtljjlhbbcjjmlaaGreatDoorRW4Fs6:=(And.intro @Tryz.underlying3 @Tryz.underlying5)
def YtljjlhbbcjjmlaaGreatDoorRW4Fs11:=(And.intro (And.intro @agg3 @by3) (And.intro @inf3 (And.intro @sz3 @Tryz.underlying25)))
theorem ints11 (a:Option Addr)(n c:Nat)(xs:List Int)(b:Option Addr)(m d:Nat)(ys:List Int)(h:Eng.Heap)(hx:eu h a n xs)(hy:eu h b m ys)(hn:n<=1000)(hm:m<=1000):
 ak Tryz.prog 11 #[.slice a n c,.slice b m d] h (fun v h'=>v= .bool (decide (xs=ys))/\h'=h):=by
 have l1:=hx.len;have l2:=hy.len
 (refine Rm Tryz.func11 rfl bod11 ?_;simp only[Tryz.ntmps11,Tryz.results11,coreS,U1,splice,Value.cells,Value.oneCell',Nat.reduceAdd,Nat.reduceSub,Nat.reduceMul,Nat.reduceLeDiff,Int.reduceEq,Nat.reduceEqDiff,YtljjlhbbcjjmlaaGreatDoorRW4Fs11])
 by_cases he:(n:Int)=m
 .simp only[he,decide_true,Bool.not_true,coreS,Value.cells,Value.oneCell',Nat.reduceAdd,Nat.reduceSub,Nat.reduceMul,Nat.reduceLeDiff,Int.reduceEq,Nat.reduceEqDiff,YtljjlhbbcjjmlaaGreatDoorRW4Fs11];refine zAi [4,5,11,12,13,14,15,16,17,18,19,20,21,22,23,24,25] (fun g h'=>h'=h/\∃i:Nat,i<=n/\g 5= .int .i64 i/\∀j<i,xs.getD j 0=ys.getD j 0) (fun g _=>match g 5 with| .int _ m=>n-m.toNat|_=>0) ⟨rfl,0,by omega,rfl,fun j hj=>by omega⟩ ?_;rintro g h' ⟨rfl,i,hi,hg,hno⟩;simp only[hg,coreS,Value.cells,Value.oneCell',Nat.reduceAdd,Nat.reduceSub,Nat.reduceMul,Nat.reduceLeDiff,Int.reduceEq,Nat.reduceEqDiff,YtljjlhbbcjjmlaaGreatDoorRW4Fs11];refine⟨fun hlt=> ?_,fun hge=> ?_⟩
  .have hil:i<xs.length:=by omega
   have hiy:i<ys.length:=by omega
   refine zB9 (by kernel_rfl) zBp [(0,0),(1,0),(2,0),(3,0),(4,0),(5,0),(6,0),(7,0),(8,0)] (by kernel_rfl) rfl (by kernel_rfl) ?_;simp only[hx.cell hil,hy.cell hiy,coreS,Value.cells,Value.oneCell',Nat.reduceAdd,Nat.reduceSub,Nat.reduceMul,Nat.reduceLeDiff,Int.reduceEq,Nat.reduceEqDiff,drawS,YtljjlhbbcjjmlaaGreatDoorRW4Fs11]
   repeat (refine And.intro (by first|omega|(rw[zBS];omega)|rfl|assumption|(exact hx.isSome (by omega))|(exact hy.isSome (by omega))) ?_)
   by_cases hxy:xs.getD i 0=ys.getD i 0
   .simp only[hxy,decide_true,Bool.not_true,coreS,Value.cells,Value.oneCell',Nat.reduceAdd,Nat.reduceSub,Nat.reduceMul,Nat.reduceLeDiff,Int.reduceEq,Nat.reduceEqDiff,YtljjlhbbcjjmlaaGreatDoorRW4Fs11];refine⟨by rw[zBS];omega,Zr (by kernel_rfl) ⟨rfl,i+1,by omega,rfl,fun j hj=> ?_⟩ ?_⟩
    .by_cases hji:j=i
     .subst hji;exact hxy
     .exact hno j (by omega)
    .show n-((i:Int)+1).toNat<n-(i:Int).toNat;omega
   .have hne:¬xs=ys:=fun hh=>hxy (by rw[hh])
    simp only[hxy,decide_false,Bool.not_false,coreS,Value.cells,Value.oneCell',Nat.reduceAdd,Nat.reduceSub,Nat.reduceMul,Nat.reduceLeDiff,Int.reduceEq,Nat.reduceEqDiff,YtljjlhbbcjjmlaaGreatDoorRW4Fs11];simp[hne]
  .have hxy:xs=ys:=ext_getD (by omega) fun j hj=>hno j (by omega)
   simp[hxy]
 .have hne:¬xs=ys:=fun hh=>he (by rw[l1,l2,hh])
  simp only[he,decide_false,Bool.not_false,coreS,Value.cells,Value.oneCell',Nat.reduceAdd,Nat.reduceSub,Nat.reduceMul,Nat.reduceLeDiff,Int.reduceEq,Nat.reduceEqDiff,YtljjlhbbcjjmlaaGreatDoorRW4Fs11];simp[hne]
theorem shops6 (m:Int)(h:Eng.Heap)(h0:0<=m)(h1:m<=255):ak Tryz.prog 6 #[.int .u8 m] h (fun v h'=>v= .int .i64 (1+m % 12)/\h'=h):=by
 have e1:m.tmod 12=m % 12:=Int.tmod_eq_emod_of_nonneg h0
 (refine Rm Tryz.func6 rfl bod6 ?_;simp only[Tryz.ntmps6,Tryz.results6,coreS,U1,splice,Value.cells,Value.oneCell',Nat.reduceAdd,Nat.reduceSub,Nat.reduceMul,Nat.reduceLeDiff,Int.reduceEq,Nat.reduceEqDiff,YtljjlhbbcjjmlaaGreatDoorRW4Fs6])
 refine⟨by rw[zBS];omega,by omega,?_⟩;rw[e1];exact⟨by rw[zBS];omega,rfl⟩
theorem bytesV_getI (xs:List Int)(j:Nat)(hj:j<xs.length):(pX xs)[j]'(by rw[mY];exact hj)= .int .u8 (xs.getD j 0):=by
 simp[pX,List.getD,List.getElem?_eq_getElem hj]
theorem cellB {h:Eng.Heap}{a:Option Addr}{xs:List Int}(hr:Row h a (pX xs)){j:Nat}(hj:j<xs.length):jL h (lg a j)=some (.int .u8 (xs.getD j 0)):=by
 have:=hr.cell (j:=j) (by rw[mY];exact hj);rw[this,bytesV_getI _ _ hj]
theorem ownI_besideR {m:Nat}{h h':Eng.Heap}{el:TypeId}{a x x':Option Addr}{len cap:Nat}{xs:List Int}(O:eG m h el a len cap xs)(A:App h h' x x')(hne:∀p q,a=some p->x=some q->p.block≠q.block):eG m h' el a len cap xs:=
 O.keep fun p hp=>A.old _ (O.lt hp).1 fun q hq e=>hne p q hp hq e.symm
theorem rimmed3 (wk:∀h,ak Tryz.prog 5 #[] h (fun v h'=>v= .bool true/\Ext h h'))(n0:Int)(b:Option Addr)(m k:Nat)(by_:List Int)(n2:Int)(h:Eng.Heap)(h0:0<=n0/\n0<=255)(hb:Row h b (pX by_))(hm:m=by_.length)(hby:∀x∈by_,0<=x/\x<=255)(h2:0<=n2/\n2<=255):
 ak Tryz.prog 3 #[.int .u8 n0,.slice b m k,.int .u8 n2] h (fun v h'=>v= .bool true/\Ext h h'):=by
 (refine Rm Tryz.func3 rfl bod3 ?_;simp only[Tryz.ntmps3,Tryz.results3,coreS,U1,splice,Value.cells,Value.oneCell',Nat.reduceAdd,Nat.reduceSub,Nat.reduceMul,Nat.reduceLeDiff,Int.reduceEq,Nat.reduceEqDiff,YtljjlhbbcjjmlaaGreatDoorRW4Fs3])
 have works:∀(h':Eng.Heap) (K:Value->Eng.Heap->Prop),Ext h h'->(∀h'',Ext h h''->K (.bool true) h'')->ak Tryz.prog 5 #[] h' K:=fun h' K x H=>ak.mono (wk h') fun v h'' q=>by
  obtain⟨rfl,x2⟩:=q;exact H _ (x.trans x2)
 refine⟨fun hc=> ?_,fun hc=>⟨fun hc2=> ?_,fun hc2=> ?_⟩⟩
 .refine works _ _ (Ext.refl h) fun h'' x=> ?_
  simp only[coreS,Value.cells,Value.oneCell',Nat.reduceAdd,Nat.reduceSub,Nat.reduceMul,Nat.reduceLeDiff,Int.reduceEq,Nat.reduceEqDiff,YtljjlhbbcjjmlaaGreatDoorRW4Fs3];exact x
 .refine works _ _ (Ext.refl h) fun h'' x=> ?_
  simp only[coreS,Value.cells,Value.oneCell',Nat.reduceAdd,Nat.reduceSub,Nat.reduceMul,Nat.reduceLeDiff,Int.reduceEq,Nat.reduceEqDiff,YtljjlhbbcjjmlaaGreatDoorRW4Fs3];exact x
 obtain⟨n,hn⟩:∃n:Nat,1+n0 % 12=(n:Int):=⟨(1+n0 % 12).toNat,by omega⟩;have hn1:1<=n:=by omega
 have hn12:n<=12:=by omega
 refine ak.mono (shops6 n0 h h0.1 h0.2) ?_;rintro v h1 ⟨rfl,rfl⟩;rw[hn];simp only[coreS,Value.cells,Value.oneCell',Nat.reduceAdd,Nat.reduceSub,Nat.reduceMul,Nat.reduceLeDiff,Int.reduceEq,Nat.reduceEqDiff,YtljjlhbbcjjmlaaGreatDoorRW4Fs3];obtain⟨s,hs⟩:∃s:Nat,n2 % (n:Int)=(s:Int):=⟨(n2 % (n:Int)).toNat,by have:=Int.emod_nonneg n2 (show(n:Int)≠0 by omega);omega⟩;have hsn:s<n:=by have:=Int.emod_lt_of_pos n2 (show(0:Int)<(n:Int) by omega);omega
 have e2:n2.tmod (n:Int)=(s:Int):=by rw[Int.tmod_eq_emod_of_nonneg h2.1,hs]
 have hm0:0<by_.length:=by omega
 refine⟨by rw[zBS];omega,by omega,?_⟩;rw[e2];refine zAi [9,10,11,41,42,43,44,45,46,47,48,49,50,51,52,53,54,55,56,57,58,59,60,61,62,63,64,65,66,67] (fun g h'=>∃i:Nat,i<=n/\g 11= .int .i64 i/\Ext h1 h'/\∃a9 c9 a10 c10,g 9= .slice a9 i c9/\g 10= .slice a10 i c10/\eG h1.size h' 3 a9 i c9 (zs (cdF by_ n i))/\eG h1.size h' 3 a10 i c10 (zs (cdF by_ n i))/\∀p q,a9=some p->a10=some q->p.block≠q.block) (fun g _=>match g 11 with| .int _ m=>n-m.toNat|_=>0) ⟨0,by omega,rfl,Ext.refl h1,none,0,none,0,rfl,rfl,eG.nil _ _ _,eG.nil _ _ _,fun p q hp=>by cases hp⟩ ?_;rintro g h' ⟨i,hi,hg,x,a9,c9,a10,c10,hg9,hg10,O9,O10,hne⟩;simp only[hg,hg9,hg10,coreS,Value.cells,Value.oneCell',Nat.reduceAdd,Nat.reduceSub,Nat.reduceMul,Nat.reduceLeDiff,Int.reduceEq,Nat.reduceEqDiff,YtljjlhbbcjjmlaaGreatDoorRW4Fs3];refine⟨fun hlt=> ?_,fun hge=> ?_⟩
 .have hin:i<n:=by omega
  obtain⟨q,hq⟩:∃q:Nat,(i:Int).tmod (m:Int)=(q:Int):=⟨i % m,by rw[Int.tmod_eq_emod_of_nonneg (by omega)];rfl⟩;have hqe:q=i % m:=by rw[Int.tmod_eq_emod_of_nonneg (by omega)]at hq;omega
  have hqm:q<by_.length:=by rw[hqe,<-hm];exact Nat.mod_lt _ (by omega)
  have hbq:=cellB (hb.ext x) hqm;have hby_q:=hby _ (getD_mem hqm);simp only[hq,hbq,coreS,Value.cells,Value.oneCell',Nat.reduceAdd,Nat.reduceSub,Nat.reduceMul,Nat.reduceLeDiff,Int.reduceEq,Nat.reduceEqDiff,YtljjlhbbcjjmlaaGreatDoorRW4Fs3];obtain⟨w,hw⟩:∃w:Nat,(by_.getD q 0).tmod ((n:Int)-(i:Int))=(w:Int):=⟨((by_.getD q 0)% ((n:Int)-(i:Int))).toNat,by
   rw[Int.tmod_eq_emod_of_nonneg hby_q.1];have:=Int.emod_nonneg (by_.getD q 0) (show(n:Int)-(i:Int)≠0 by omega);omega⟩
  have hwe:w=(by_.getD (i % by_.length) 0).toNat % (n-i):=by
   rw[Int.tmod_eq_emod_of_nonneg hby_q.1]at hw;rw[<-hm,<-hqe];obtain⟨z,hz⟩:∃z:Nat,by_.getD q 0=(z:Int):=⟨(by_.getD q 0).toNat,by omega⟩;rw[hz]at hw ⊢;rw[show(n:Int)-(i:Int)=((n-i:Nat):Int) by omega]at hw;rw[Int.toNat_natCast]
   exact_mod_cast hw.symm
  have hnx:zs (cdF by_ n (i+1))=zs (cdF by_ n i)++[(w:Int)]:=by rw[cdF_next,zs_append,<-hwe];rfl
  refine⟨by omega,by omega,hb.isSome (by rw[mY];omega),by rw[zBS];omega,by rw[zBS];omega,by omega,?_⟩;rw[hw];have es:splice [Value.int .i64 0] 0 [.int .i64 (w:Int)]=[.int .i64 (w:Int)]:=rfl;simp only[es];have P9:=O9.ext ((Ext.refl h').push (.cells #[.int .i64 (w:Int)] 3));have P10:=O10.ext ((Ext.refl h').push (.cells #[.int .i64 (w:Int)] 3));refine app25 (m0:=h1.size) rfl rfl P9 (by have:=x.size;simp;omega) intsV_one (by omega) fun a9' c9' h3 O9' A9=> ?_
  have O10':=ownI_besideR P10 A9 fun p q hp hq e=>hne q p hq hp e.symm
  have hne':∀p q,a9'=some p->a10=some q->p.block≠q.block:=fun p q hp hq e=>by
   rcases A9.to p hp with⟨p',h1',h2'⟩|h1'
   .exact hne p' q h1' hq (h2'.trans e)
   .have:=(P10.lt hq).1;omega
  have x3:=A9.extN P9 (x.push _) (Nat.le_refl _);rw[<-hnx]at O9';have hc9:=O9'.ints.cell (j:=i) (by rw[zs_length,cdF_length];omega);have hv9:(zs (cdF by_ n (i+1))).getD i 0=(w:Int):=by rw[hnx,List.getD,List.getElem?_append_right (by rw[zs_length,cdF_length];omega),zs_length,cdF_length];simp
  rw[hv9]at hc9;have hs9:=O9'.ints.isSome (by rw[zs_length,cdF_length];omega);simp only[hc9,coreS,Value.cells,Value.oneCell',Nat.reduceAdd,Nat.reduceSub,Nat.reduceMul,Nat.reduceLeDiff,Int.reduceEq,Nat.reduceEqDiff,YtljjlhbbcjjmlaaGreatDoorRW4Fs3];refine⟨by omega,hs9,?_⟩;simp only[es];have Q9:=O9'.ext ((Ext.refl h3).push (.cells #[.int .i64 (w:Int)] 3));have Q10:=O10'.ext ((Ext.refl h3).push (.cells #[.int .i64 (w:Int)] 3));refine app25 (m0:=h1.size) rfl rfl Q10 (by have:=x3.size;simp;omega) intsV_one (by omega) fun a10' c10' h4 O10'' A10=> ?_
  have O9'':=ownI_besideR Q9 A10 fun p q hp hq e=>hne' p q hp hq e
  have x4:=A10.extN Q10 (x3.push _) (Nat.le_refl _);rw[<-hnx]at O10'';simp only[hg,coreS,Value.cells,Value.oneCell',Nat.reduceAdd,Nat.reduceSub,Nat.reduceMul,Nat.reduceLeDiff,Int.reduceEq,Nat.reduceEqDiff,YtljjlhbbcjjmlaaGreatDoorRW4Fs3];refine⟨by rw[zBS];omega,Zr (by kernel_rfl) ⟨i+1,by omega,rfl,x4,a9',c9',a10',c10',rfl,rfl,O9'',O10'',fun p q hp hq e=> ?_⟩ ?_⟩
  .rcases A10.to q hq with⟨q',h1',h2'⟩|h1'
   .exact hne' p q' hp h1' (e.trans h2'.symm)
   .have:=(Q9.lt hp).1;omega
  .show n-((i:Int)+1).toNat<n-(i:Int).toNat;omega
 .have hin:i=n:=by omega
  subst hin;obtain⟨cs,hcs⟩:∃cs,cs=cdF by_ i i:=⟨_,rfl⟩;have hcl:cs.length=i:=by rw[hcs,cdF_length]
  have hf:fits i cs:=by rw[hcs];exact cdF_fits _ _
  rw[<-hcs]at O9 O10;obtain⟨c0,rest,rfl⟩:∃c0 rest,cs=c0::rest:=by
   cases cs with
   |nil=>simp at hcl;omega
   |cons c0 rest=>exact⟨_,_,rfl⟩
  have hc0:c0<i:=hf.1;have hz0:(zs (c0::rest)).getD 0 0=(c0:Int):=rfl;have hc9:=O9.ints.cell (j:=0) (by rw[zs_length];simp);rw[hz0]at hc9;have hs9:=O9.ints.isSome (by rw[zs_length];simp);obtain⟨g0,tl,rfl,hg0,hb10,hcap,_,_⟩:=O10.block (by omega);have hw:((c0:Int)+(s:Int)).tmod (i:Int)=(((c0+s)% i:Nat):Int):=by rw[Int.tmod_eq_emod_of_nonneg (by omega)];rfl
  obtain⟨w,hwe⟩:∃w,w=(c0+s)% i:=⟨_,rfl⟩;have hwi:w<i:=by rw[hwe];exact Nat.mod_lt _ (by omega)
  rw[<-hwe]at hw;simp only[hc9,hw,hb10,coreS,Value.cells,Value.oneCell',Nat.reduceAdd,Nat.reduceSub,Nat.reduceMul,Nat.reduceLeDiff,Int.reduceEq,Nat.reduceEqDiff,YtljjlhbbcjjmlaaGreatDoorRW4Fs3];refine⟨by omega,hs9,by rw[zBS];omega,by omega,by omega,rfl,?_⟩;refine Oy hb10 (by simp[aR,zs_length];omega) fun h3 g3 u3=> ?_
  replace g3:h3[g0]? =some (.cells (ints (zs (w::rest))++tl).toArray 3):=g3
  have x3:Ext h1 h3:=u3.ext x hg0;have I9:eu h3 a9 i (zs (c0::rest)):=(O9.keep fun p hp=>u3.old _ fun e=>hne p _ hp rfl e).ints;have hl10:=O10.ln;have I10:eu h3 (some ⟨g0,0,none⟩) i (zs (w::rest)):=by
   have hl:(zs (w::rest)).length=i:=by simpa[zs_length]using hcl
   have:=(eG.of_block (m:=0) (cap:=i) (Nat.zero_le _) g3 (by omega) (by omega)).ints;rwa[hl]at this
  have hf2:fits i (w::rest):=⟨hwi,hf.2⟩;have hcl2:(w::rest).length=i:=by simpa using hcl
  simp only[coreS,Value.cells,Value.oneCell',Nat.reduceAdd,Nat.reduceSub,Nat.reduceMul,Nat.reduceLeDiff,Int.reduceEq,Nat.reduceEqDiff,YtljjlhbbcjjmlaaGreatDoorRW4Fs3];refine ak.mono (order19 i a9 i c9 (zs (c0::rest)) h3 I9 (by omega)) ?_;rintro v h4 ⟨x4,a12,n12,c12,rfl,_,hc12,I12⟩;rw[ordZ_fits hn1 hn12 hcl hf]at I12;rw[chkE_fits hn1 hn12 hcl hf];have ha12:=I12.len;rw[zs_length,ordF_length]at ha12;obtain rfl:n12=i:=by omega
  simp only[coreS,Value.cells,Value.oneCell',Nat.reduceAdd,Nat.reduceSub,Nat.reduceMul,Nat.reduceLeDiff,Int.reduceEq,Nat.reduceEqDiff,YtljjlhbbcjjmlaaGreatDoorRW4Fs3];refine ak.mono (order19 n12 (some ⟨g0,0,none⟩) n12 c10 (zs (w::rest)) h4 (I10.ext x4) (by omega)) ?_;rintro v h5 ⟨x5,a14,n14,c14,rfl,_,hc14,I14⟩;rw[ordZ_fits hn1 hn12 hcl2 hf2]at I14;rw[chkE_fits hn1 hn12 hcl2 hf2];have ha14:=I14.len;rw[zs_length,ordF_length]at ha14;obtain rfl:n14=n12:=by simp at hcl ha14;omega
  have I12':=I12.ext x5;rw[hwe,ord_shift hf]at I14;obtain⟨A,hA⟩:∃A,A=ordF (List.range n14) (c0::rest):=⟨_,rfl⟩;have hAl:A.length=n14:=by rw[hA,ordF_length,hcl]
  have hAn:∀x∈A,x<n14:=by rw[hA];exact ordF_lt n14 _ _ (by rw[List.length_range];exact hf) (fun x hx=>List.mem_range.1 hx)
  rw[<-hA]at I12' I14;have y5:Ext h1 h5:=(x3.trans x4).trans x5;clear I12 I9 I10 g3 u3 hb10 O9 O10 x4 x5 x3 hA;simp only[decide_true,Bool.not_true,coreS,Value.cells,Value.oneCell',Nat.reduceAdd,Nat.reduceSub,Nat.reduceMul,Nat.reduceLeDiff,Int.reduceEq,Nat.reduceEqDiff,YtljjlhbbcjjmlaaGreatDoorRW4Fs3];refine zBq [16,17,107,108,109,110] (fun g h'=>∃b1 b2,g 16= .slice (some ⟨b1,0,none⟩) n14 n14/\g 17= .slice (some ⟨b2,0,none⟩) n14 n14/\h5.size<=b1/\h5.size<=b2/\b1≠b2/\h'[b1]? =some (.cells (List.replicate n14 (.int .i64 0)).toArray 3)/\h'[b2]? =some (.cells (List.replicate n14 (.int .i64 0)).toArray 3)/\Ext h5 h') ?_ ?_
  .refine zB7 (by kernel_rfl) zBc (.quiet 0 (.quiet 2 (.fork 1 3 (.quiet 4 (.keep 3 (.quiet 5 (.fin)))) (.keep 1 (.quiet 4 (.quiet 5 (.fin))))))) (by kernel_rfl) rfl (by kernel_rfl) ?_;simp only[splice,coreS,Value.cells,Value.oneCell',Nat.reduceAdd,Nat.reduceSub,Nat.reduceMul,Nat.reduceLeDiff,Int.reduceEq,Nat.reduceEqDiff,drawS,treeS,YtljjlhbbcjjmlaaGreatDoorRW4Fs3];refine Y4 fun h6 x6=>⟨?_,?_⟩
   .simp only[List.flatten_replicate_singleton,coreS,Value.cells,Value.oneCell',Nat.reduceAdd,Nat.reduceSub,Nat.reduceMul,Nat.reduceLeDiff,Int.reduceEq,Nat.reduceEqDiff,drawS,treeS,YtljjlhbbcjjmlaaGreatDoorRW4Fs3]
    repeat (first|refine And.intro (by omega) ?_|refine And.intro ((Ext.refl _).push _) ?_)
    refine YD fun h7 x7=> ?_
    simp only[List.flatten_replicate_singleton,coreS,Value.cells,Value.oneCell',Nat.reduceAdd,Nat.reduceSub,Nat.reduceMul,Nat.reduceLeDiff,Int.reduceEq,Nat.reduceEqDiff,drawS,treeS,YtljjlhbbcjjmlaaGreatDoorRW4Fs3]
    repeat (first|refine And.intro (by omega) ?_|refine And.intro ((Ext.refl _).push _) ?_)
    refine zAN fun h8 x8=> ?_
    have s2:=x7.size;rw[Rh]at s2;have s1:=x6.size;simp only[Gd];exact zBX (by kernel_rfl) ⟨h6.size,h7.size,rfl,rfl,s1,by omega,by omega,x8.get (Jy (x7.get jD)),x8.get jD,((x6.push _).trans x7).trans (x8.zBe)⟩
   .simp only[List.flatten_replicate_singleton,coreS,Value.cells,Value.oneCell',Nat.reduceAdd,Nat.reduceSub,Nat.reduceMul,Nat.reduceLeDiff,Int.reduceEq,Nat.reduceEqDiff,drawS,treeS,YtljjlhbbcjjmlaaGreatDoorRW4Fs3]
    repeat (first|refine And.intro (by omega) ?_|refine And.intro ((Ext.refl _).push _) ?_)
    refine YD fun h7 x7=> ?_
    simp only[List.flatten_replicate_singleton,coreS,Value.cells,Value.oneCell',Nat.reduceAdd,Nat.reduceSub,Nat.reduceMul,Nat.reduceLeDiff,Int.reduceEq,Nat.reduceEqDiff,drawS,treeS,YtljjlhbbcjjmlaaGreatDoorRW4Fs3]
    repeat (first|refine And.intro (by omega) ?_|refine And.intro ((Ext.refl _).push _) ?_)
    refine zAN fun h8 x8=> ?_
    have s2:=x7.size;rw[Rh]at s2;have s1:=x6.size;simp only[Gd];exact zBX (by kernel_rfl) ⟨h7.size,h6.size,rfl,rfl,by omega,s1,by omega,x8.get jD,x8.get (Jy (x7.get jD)),((x6.push _).trans x7).trans (x8.zBe)⟩
  rintro g2 h6 ⟨b1,b2,e16,e17,hb1,hb2,hbn,q1,q2,x6⟩;have er:List.replicate n14 (Value.int .i64 0)=ints (List.replicate n14 0):=by simp[ints]
  rw[er]at q1 q2;simp only[e16,e17,coreS,Value.cells,Value.oneCell',Nat.reduceAdd,Nat.reduceSub,Nat.reduceMul,Nat.reduceLeDiff,Int.reduceEq,Nat.reduceEqDiff,YtljjlhbbcjjmlaaGreatDoorRW4Fs3];have J12:=I12'.ext x6;have J14:=I14.ext x6;refine zAi [6,18,111,112,113,114,115,116,117,118,119,120,121,122,123,124,125,126,127,128,129,130,131,132,133,134,135,136,137,138,139,140,141,142,143,144,145,146,147,148,149,150,151,152,153,154,155,156,157,158,159] (fun g h'=>∃(i:Nat) (o1 o2:List Int),i<=n14/\g 18= .int .i64 i/\Two n14 s o1 o2/\h'[b1]? =some (.cells (ints o1).toArray 3)/\h'[b2]? =some (.cells (ints o2).toArray 3)/\Ext h5 h') (fun g _=>match g 18 with| .int _ m=>n14-m.toNat|_=>0) ⟨0,_,_,by omega,rfl,Two.zero (by omega),q1,q2,x6⟩ ?_;rintro g h7 ⟨i,o1,o2,hi,hg,T,r1,r2,x7⟩;simp only[hg,coreS,Value.cells,Value.oneCell',Nat.reduceAdd,Nat.reduceSub,Nat.reduceMul,Nat.reduceLeDiff,Int.reduceEq,Nat.reduceEqDiff,YtljjlhbbcjjmlaaGreatDoorRW4Fs3];refine⟨fun hlt=> ?_,fun hge=> ?_⟩
  .have hin:i<n14:=by omega
   obtain⟨v,hv⟩:∃v,v=A.getD i 0:=⟨_,rfl⟩;have hiA:i<A.length:=by omega
   have hvn:v<n14:=by
    rw[hv];simp only[List.getD,List.getElem?_eq_getElem hiA,Option.getD_some];exact hAn _ (List.getElem_mem hiA)
   have vA:(zs A).getD i 0=(v:Int):=by rw[zs_get,hv]
   have vB:(zs (A.map fun x=>(x+s)% n14)).getD i 0=(((v+s)% n14:Nat):Int):=by
    rw[zs_get,hv];simp[List.getD,List.getElem?_eq_getElem hiA]
   have kA:=(I12'.ext x7).cell (j:=i) (by rw[zs_length];omega);have kB:=(I14.ext x7).cell (j:=i) (by rw[zs_length,List.length_map];omega);have sA:=(I12'.ext x7).isSome (by rw[zs_length];omega);have sB:=(I14.ext x7).isSome (by rw[zs_length,List.length_map];omega);rw[vA]at kA;rw[vB]at kB;have hq:((v:Int)+(s:Int)).tmod (n14:Int)=(((v+s)% n14:Nat):Int):=by rw[Int.tmod_eq_emod_of_nonneg (by omega)];rfl
   obtain⟨u,hu⟩:∃u,u=(v+s)% n14:=⟨_,rfl⟩;have hun:u<n14:=by rw[hu];exact Nat.mod_lt _ (by omega)
   rw[<-hu]at kB hq;have t1:¬(v:Int)<0:=by omega
   have t2:¬(n14:Int)<=(v:Int):=by omega
   refine zB9 (by kernel_rfl) zBp [(0,0),(1,0),(2,0),(3,0),(4,0),(5,0),(6,0),(7,0),(8,0),(9,0),(10,0),(11,0),(12,0),(13,0),(14,0),(15,0),(16,0),(17,0),(18,0),(19,0),(20,0),(21,0),(22,0),(23,0),(24,0),(25,0),(26,0),(27,0)] (by kernel_rfl) rfl (by kernel_rfl) ?_;simp only[kA,kB,hq,t1,t2,decide_false,decide_true,Bool.not_true,coreS,Value.cells,Value.oneCell',Nat.reduceAdd,Nat.reduceSub,Nat.reduceMul,Nat.reduceLeDiff,Int.reduceEq,Nat.reduceEqDiff,drawS,YtljjlhbbcjjmlaaGreatDoorRW4Fs3]
   repeat (refine And.intro (by first|omega|(rw[zBS];omega)|rfl|assumption|(exact sA)|(exact sB)) ?_)
   refine zB9 (by kernel_rfl) zBp [(0,0),(1,0),(2,0),(3,0),(4,0),(5,3),(6,0),(7,0),(8,0),(9,0),(10,0),(11,0),(12,3),(13,3),(14,0),(15,1),(16,0),(17,1)] (by kernel_rfl) rfl (by kernel_rfl) ?_;have l1:=T.l1;have l2:=T.l2;obtain⟨mk,hmk⟩:∃mk:Int,(if 3<(i:Int)then 3 else(i:Int))=mk:=⟨_,rfl⟩;have hmk0:0<=mk/\mk<=3:=by rw[<-hmk];split<;>omega
   simp only[kA,kB,hg,r1,hmk,coreS,Value.cells,Value.oneCell',Nat.reduceAdd,Nat.reduceSub,Nat.reduceMul,Nat.reduceLeDiff,Int.reduceEq,Nat.reduceEqDiff,drawS,YtljjlhbbcjjmlaaGreatDoorRW4Fs3]
   repeat (refine And.intro (by first|omega|(rw[zBS];omega)|rfl|assumption|(exact sA)|(exact sB)) ?_)
   refine Oy r1 (by rw[aR];simp;omega) fun h8 g8 u8=> ?_
   rw[MN _ _ _ (by rw[aR];omega),ints_set]at g8;have r3:=u8.get r2 (by omega);simp only[Ye,r3,coreS,Value.cells,Value.oneCell',Nat.reduceAdd,Nat.reduceSub,Nat.reduceMul,Nat.reduceLeDiff,Int.reduceEq,Nat.reduceEqDiff,drawS,YtljjlhbbcjjmlaaGreatDoorRW4Fs3]
   repeat (refine And.intro (by first|omega|(rw[zBS];omega)|rfl|assumption) ?_)
   refine Oy r3 (by rw[aR];simp;omega) fun h9 g9 u9=> ?_
   rw[MN _ _ _ (by rw[aR];omega),ints_set]at g9;have r4:=u9.get g8 (by omega);simp only[Ye,hg,coreS,Value.cells,Value.oneCell',Nat.reduceAdd,Nat.reduceSub,Nat.reduceMul,Nat.reduceLeDiff,Int.reduceEq,Nat.reduceEqDiff,drawS,YtljjlhbbcjjmlaaGreatDoorRW4Fs3];have T':=T.set hvn hmk0.1 hmk0.2;rw[<-hu]at T';refine⟨by rw[zBS];omega,Zr (by kernel_rfl) ⟨i+1,_,_,by omega,rfl,T',r4,g9,u9.ext (u8.ext x7 hb1) hb2⟩ ?_⟩;show n14-((i:Int)+1).toNat<n14-(i:Int).toNat;omega
  have y7:=y5.trans x7;have l1:=T.l1;have l2:=T.l2;have I1:eu h7 (some ⟨b1,0,none⟩) n14 o1:=by have:=eu.block r1;rwa[l1]at this
  have I2:eu h7 (some ⟨b2,0,none⟩) n14 o2:=by have:=eu.block r2;rwa[l2]at this
  have R1:Rim 4 o1:=⟨by omega,by omega,fun x hx=>by have:=T.b x hx;omega⟩;have R2:Rim 4 o2:=⟨by omega,by omega,fun x hx=>by have:=T.rim hsn x hx;omega⟩;refine ak.mono (turn8 4 _ n14 n14 s o2 h7 I2 (Nat.le_refl _) R2 hsn) ?_;rintro v h8 ⟨x8,a19,c19,rfl,_,I19⟩;rw[T.rot hsn]at I19;simp only[coreS,Value.cells,Value.oneCell',Nat.reduceAdd,Nat.reduceSub,Nat.reduceMul,Nat.reduceLeDiff,Int.reduceEq,Nat.reduceEqDiff,YtljjlhbbcjjmlaaGreatDoorRW4Fs3];have hct:cntL o1=cntL o2:=by
   rw[T.rot2 hsn];simp only[cntL,count_rot]
  refine ak.mono (shift9 4 _ n14 n14 o1 _ n14 o2 h8 (I1.ext x8) (Nat.le_refl _) R1 (I2.ext x8) (Nat.le_refl _) R2 hct _ (Nat.mod_lt (n14-s) (by omega)) (T.rot2 hsn)) ?_;rintro v h9 ⟨x9,w9,rfl⟩;simp only[coreS,Value.cells,Value.oneCell',Nat.reduceAdd,Nat.reduceSub,Nat.reduceMul,Nat.reduceLeDiff,Int.reduceEq,Nat.reduceEqDiff,YtljjlhbbcjjmlaaGreatDoorRW4Fs3];have z9:=x8.trans x9;refine ak.mono (least10 4 _ n14 n14 o1 h9 (I1.ext z9) (Nat.le_refl _) R1) ?_;rintro v h10 ⟨x10,q1',L1,a20,c20,rfl,_,I20⟩;simp only[coreS,Value.cells,Value.oneCell',Nat.reduceAdd,Nat.reduceSub,Nat.reduceMul,Nat.reduceLeDiff,Int.reduceEq,Nat.reduceEqDiff,YtljjlhbbcjjmlaaGreatDoorRW4Fs3];have z10:=z9.trans x10;refine ak.mono (least10 4 _ n14 n14 o2 h10 (I2.ext z10) (Nat.le_refl _) R2) ?_;rintro v h11 ⟨x11,q2',L2,a23,c23,rfl,_,I23⟩;have z11:=z10.trans x11;simp only[decide_true,coreS,Value.cells,Value.oneCell',Nat.reduceAdd,Nat.reduceSub,Nat.reduceMul,Nat.reduceLeDiff,Int.reduceEq,Nat.reduceEqDiff,YtljjlhbbcjjmlaaGreatDoorRW4Fs3];refine ak.mono (ints11 a19 n14 c19 o1 _ n14 n14 o1 h11 (I19.ext ((x9.trans x10).trans x11)) (I1.ext z11) (by omega) (by omega)) ?_;rintro v h12 ⟨rfl,rfl⟩;simp only[decide_true,coreS,Value.cells,Value.oneCell',Nat.reduceAdd,Nat.reduceSub,Nat.reduceMul,Nat.reduceLeDiff,Int.reduceEq,Nat.reduceEqDiff,YtljjlhbbcjjmlaaGreatDoorRW4Fs3];have hlow:rotL o1 q1'=rotL o2 q2':=low_turned (l:=o1) (m:=o2) (s:=(n14-s)% n14) (by rw[l1];exact Nat.mod_lt _ (by omega)) (T.rot2 hsn) L1 L2;rw[<-hlow]at I23;refine ak.mono (ints11 a20 n14 c20 _ a23 n14 c23 _ h12 (I20.ext x11) I23 (by omega) (by omega)) ?_;rintro v h13 ⟨rfl,rfl⟩;simp only[decide_true,coreS,Value.cells,Value.oneCell',Nat.reduceAdd,Nat.reduceSub,Nat.reduceMul,Nat.reduceLeDiff,Int.reduceEq,Nat.reduceEqDiff,YtljjlhbbcjjmlaaGreatDoorRW4Fs3];refine works _ _ (y7.trans z11) fun h'' x=> ?_
  simp only[coreS,Value.cells,Value.oneCell',Nat.reduceAdd,Nat.reduceSub,Nat.reduceMul,Nat.reduceLeDiff,Int.reduceEq,Nat.reduceEqDiff,YtljjlhbbcjjmlaaGreatDoorRW4Fs3];exact x
end Go.Proofs.YtljjlhbbcjjmlaaGreatDoor
