/- Lemmas. No condition. -/
import Derived.Test.YtejmkibjpaoahaaGreatDoorR2
set_option linter.unusedSimpArgs false
set_option linter.unusedVariables false
set_option linter.defProp false
section
namespace Go.Proofs.YtejmkibjpaoahaaGreatDoor
open Go Go.Proofs Go.Eng Go.Run Tab
section
variable {P:Program}{h:Eng.Heap}{k:Operand}{ty u:TypeId}{x:Operand}
set_option maxRecDepth 100000
set_option linter.unusedSimpArgs false
set_option linter.unusedVariables false
set_option linter.defProp false
set_option maxHeartbeats 4000000
set_option linter.defProp false
def YtejmkibjpaoahaaGreatDoorG6Fs51:=(And.intro (And.intro (And.intro (And.intro @agg103 (And.intro @agg184 @agg2)) (And.intro (And.intro @agg3 @by184) (And.intro @by29 @by3))) (And.intro (And.intro (And.intro @fo181_0 @fo184_0) (And.intro @fo35_0 @fps184_0)) (And.intro (And.intro @inf103 @inf184) (And.intro @inf2 @inf29)))) (And.intro (And.intro (And.intro (And.intro @inf3 @okf184) (And.intro @sz103 @sz184)) (And.intro (And.intro @sz2 @sz29) (And.intro @sz3 @zero103))) (And.intro (And.intro (And.intro @zero184 @zero29) (And.intro @zero3 @Tryz.underlying29)) (And.intro (And.intro @Tryz.underlying71 @Tryz.underlying103) (And.intro @Tryz.underlying182 @Tryz.underlying185)))))
theorem opW_ment {e:Eng.Env}{K:Value->Eng.Heap->Prop}:opW P (.mapEntry u x k) ty e h K=aI P (.mapEntry u x k) ty e h K:=by
 unfold opW pvW zH;rfl
theorem opW_est {y:Operand}{e:Eng.Env}{K:Value->Eng.Heap->Prop}:opW P (.entryStore u x k y) ty e h K=aI P (.entryStore u x k y) ty e h K:=by
 unfold opW pvW zH;rfl
theorem groups98 (g0 k:Nat)(cl:Int)(a:Option Addr)(n c:Nat)(es:List En)(day:Int)(h:Eng.Heap)(hb0:h[g0]? =some (.cells #[.int .i64 k,.int .i64 cl,.slice a n c] 181))(hr:Row h a (ensV es))(hn:n=es.length)(hl:n<=20)(hok:∀e∈es,okE k e)(hk:k<=8)(hne:∀e∈es,e.f≠e.t):
 ak Tryz.prog 51 #[.pointer (some ⟨g0,0,none⟩),.int .i64 day] h (GrpP k (fun i=>(bals 8 es day).getD i 0) h):=by
 (refine Rm Tryz.func51 rfl bod51 ?_;simp only[Tryz.ntmps51,Tryz.results51,coreS,U1,splice,Value.cells,Value.oneCell',Nat.reduceAdd,Nat.reduceSub,Nat.reduceMul,Nat.reduceLeDiff,Int.reduceEq,Nat.reduceEqDiff,YtejmkibjpaoahaaGreatDoorG6Fs51])
 refine ak.mono (balances79 g0 k cl a n c es day h hb0 hr hn hl hok (by omega) hne) ?_;rintro v h1 ⟨rfl,x1⟩;obtain⟨xs,hxs⟩:∃xs,xs=bals 8 es day:=⟨_,rfl⟩;have hxl:xs.length=8:=by rw[hxs,bals_length]
 rw[<-hxs];obtain⟨b0,b1,b2,b3,b4,b5,b6,b7,h8⟩:∃b0 b1 b2 b3 b4 b5 b6 b7:Int,xs=[b0,b1,b2,b3,b4,b5,b6,b7]:=by
  match xs,hxl with
  |[b0,b1,b2,b3,b4,b5,b6,b7],_=>exact⟨b0,b1,b2,b3,b4,b5,b6,b7,rfl⟩
 have h9:(ints xs).toArray= #[.int .i64 b0,.int .i64 b1,.int .i64 b2,.int .i64 b3,.int .i64 b4,.int .i64 b5,.int .i64 b6,.int .i64 b7]:=by rw[h8];rfl
 rw[h9];simp only[coreS,U1,splice,Value.cells,Value.oneCell',Nat.reduceAdd,Nat.reduceSub,Nat.reduceMul,Nat.reduceLeDiff,Int.reduceEq,Nat.reduceEqDiff,YtejmkibjpaoahaaGreatDoorG6Fs51];rw[<-h9];have q5:=jD (h:=h1) (o:= .cells (ints xs).toArray 103);have xq:Ext h1 (h1.push (.cells (ints xs).toArray 103)):=(Ext.refl h1).push _;refine ak.mono (open97 xs hxl _) ?_;rintro v h2 ⟨⟨aO,cO,rfl,OO⟩,x2⟩;have y2:=(x1.trans xq).trans x2;have hg2:=y2.get hb0;obtain⟨o,ho⟩:∃o,o=opL8 xs 8:=⟨_,rfl⟩;rw[<-ho]at OO ⊢;have ho8:∀i∈o,i<8:=fun i hi=>by
  rw[ho]at hi;exact List.mem_range.1 (List.mem_filter.1 hi).1
 have hol:o.length<=8:=by rw[ho];exact opL8_le xs 8
 have hN:2^k<=256:=by
  have:2^k<=2^8:=Nat.pow_le_pow_right (by decide) hk;simpa using this
 have eN:(1:Int)*2^k=((2^k:Nat):Int):=by rw[Int.one_mul];simp
 obtain⟨N,hNe⟩:∃N,N=2^k:=⟨_,rfl⟩;rw[<-hNe]at eN hN;have q52:h2[h1.size]? =some (.cells (ints xs).toArray 103):=x2.get q5;have xm:Ext h2 (h2.push (.map #[] 0)):=(Ext.refl h2).push _;have hgm:=xm.get hg2;simp only[hgm,eN,Int.toNat_natCast,coreS,Value.cells,Value.oneCell',Nat.reduceAdd,Nat.reduceSub,Nat.reduceMul,Nat.reduceLeDiff,Int.reduceEq,Nat.reduceEqDiff,YtejmkibjpaoahaaGreatDoorG6Fs51];refine⟨by omega,by simp[IntKind.bits];omega,by rw[zBS];omega,?_⟩;have eb:=h2.size;have heb1:h1.size<h2.size:=bA q52;refine zAi [8,9,11,34,35,36,37,38,39,40,41,42,43,44,45,46,47,48,49,50,51,52,53,54,55,56,57,58] (fun e h'=>Chg (h2.push (.map #[] 0)) h' h2.size/\∃m:Nat,m<=N/\e 34= .int .i64 m/\∃em cm,jU kvG h' h2.size em cm/\EvI (fun i=>xs.getD i 0) o m 0 em) (fun e _=>match e 34 with| .int _ q=>N-q.toNat|_=>0) ⟨Chg.refl _ _,0,by omega,rfl,[],0,jU.empty h2,EvI.start⟩ ?_;rintro e3 h3 ⟨c3,m,hm,he3,em,cm,M3,E3⟩;by_cases hmN:m<N
 .have hlt:(m:Int)<(N:Int):=by omega
  have meas:N-((m:Int)+1).toNat<N-(m:Int).toNat:=by omega
  simp only[he3,hlt,decide_true,coreS,U1,splice,Value.cells,Value.oneCell',Nat.reduceAdd,Nat.reduceSub,Nat.reduceMul,Nat.reduceLeDiff,Int.reduceEq,Nat.reduceEqDiff,YtejmkibjpaoahaaGreatDoorG6Fs51];have x3:Ext h3 (h3.push (.cells #[.int .i64 (m:Nat)] 184)):=(Ext.refl h3).push _;have hs3:=c3.size;rw[Rh]at hs3;have qg:=jD (h:=h3) (o:= .cells #[.int .i64 (m:Nat)] 184);have I3:eu (h3.push (.cells #[.int .i64 (m:Nat)] 184)) aO o.length (nz o):=((OO.ints.ext xm).chg (jU.empty (kv:=kvG) h2).obj c3).ext x3;have q3:(h3.push (.cells #[.int .i64 (m:Nat)] 184))[h1.size]? =some (.cells (ints xs).toArray 103):=x3.get (c3.get (xm.get q52) (by omega));refine zAi [11,41,42,43,44,45,46,47,48,49,50,51,52,53,54,55,56,57] (fun e h'=>Chg (h3.push (.cells #[.int .i64 (m:Nat)] 184)) h' h2.size/\∃j:Nat,j<=o.length/\e 41= .int .i64 j/\∃em cm,jU kvG h' h2.size em cm/\EvI (fun i=>xs.getD i 0) o m j em) (fun e _=>match e 41 with| .int _ q=>o.length-q.toNat|_=>0) ⟨Chg.refl _ _,0,by omega,rfl,em,cm,M3.ext x3,E3⟩ ?_;rintro e4 h4 ⟨c4,j,hj,he4,em4,cm4,M4,E4⟩;have hs4:=c4.size;rw[Rh]at hs4;by_cases hjo:j<o.length
  case neg=>
   obtain rfl:j=o.length:=by omega
   simp only[he3,he4,show¬((o.length:Int)<(o.length:Int)) by omega,decide_false,coreS,Value.cells,Value.oneCell',Nat.reduceAdd,Nat.reduceSub,Nat.reduceMul,Nat.reduceLeDiff,Int.reduceEq,Nat.reduceEqDiff,YtejmkibjpaoahaaGreatDoorG6Fs51];exact⟨by rw[zBS];omega,Zr (by kernel_rfl) ⟨(c3.ext x3).trans c4,m+1,by omega,rfl,em4,cm4,M4,E4.next⟩ meas⟩
  have hltj:(j:Int)<(o.length:Int):=by omega
  have measj:o.length-((j:Int)+1).toNat<o.length-(j:Int).toNat:=by omega
  obtain⟨i,hi⟩:∃i,i=o.getD j 0:=⟨_,rfl⟩;have hio:i∈o:=by rw[hi,List.getD_eq_getElem?_getD,List.getElem?_eq_getElem hjo];exact List.getElem_mem hjo
  have hi8:=ho8 i hio;have I4:=I3.chg (M3.ext x3).obj c4;have ci:=I4.cell (j:=j) (by rw[nz_length];exact hjo);have si:=I4.isSome (by rw[nz_length];omega);rw[nz_getD,<-hi]at ci;have qg4:=c4.get qg (by omega);have q4:=c4.get q3 (by omega);simp only[he4,hltj,ci,qg4,decide_true,Int.toNat_natCast,coreS,Value.cells,Value.oneCell',Nat.reduceAdd,Nat.reduceSub,Nat.reduceMul,Nat.reduceLeDiff,Int.reduceEq,Nat.reduceEqDiff,YtejmkibjpaoahaaGreatDoorG6Fs51];refine⟨by omega,si,?_⟩;refine ak.mono (has126 m i (by omega) hi8 h4) ?_;rintro v h5 ⟨rfl,x5⟩;have M5:=M4.ext x5;cases hbit:m.testBit i with
  |false=>
   simp only[he4,coreS,Value.cells,Value.oneCell',Nat.reduceAdd,Nat.reduceSub,Nat.reduceMul,Nat.reduceLeDiff,Int.reduceEq,Nat.reduceEqDiff,YtejmkibjpaoahaaGreatDoorG6Fs51];exact⟨by rw[zBS];omega,Zr (by kernel_rfl) ⟨c4.ext x5,j+1,by omega,rfl,em4,cm4,M5,E4.skip hjo (by rw[<-hi];exact hbit)⟩ measj⟩
  |true=>
  have hvl:(fZ m em4).getD (.int .i64 0)= .int .i64 (LS.lsum (fS (fun i=>xs.getD i 0) m) (o.take j)):=by
   rw[E4.get,if_neg (by omega),if_pos rfl,valS_get]
  have qg5:=x5.get qg4;have q55:=x5.get q4;have ce:(ints xs)[i]? =some (.int .i64 (xs.getD i 0)):=Cn _ _ (by omega);simp only[coreS,Value.cells,Value.oneCell',Nat.reduceAdd,Nat.reduceSub,Nat.reduceMul,Nat.reduceLeDiff,Int.reduceEq,Nat.reduceEqDiff,YtejmkibjpaoahaaGreatDoorG6Fs51];have hbd:∀i∈o,-20000<=fS (fun i=>xs.getD i 0) m i/\fS (fun i=>xs.getD i 0) m i<=20000:=fun i hi=>by
   have h1:xs.getD i 0=balA es day (i:Int):=by rw[hxs];exact bals_get es day (ho8 i hi)
   have h2:=balA_bound day (i:Int) hok;have h3:1000*(es.length:Int)<=20000:=by omega
   unfold fS;split
   .show-20000<=xs.getD i 0/\xs.getD i 0<=20000;rw[h1];omega
   .omega
  have hls:=lsum_bound (B:=20000) (by decide) (F:=fS (fun i=>xs.getD i 0) m) (l:=o.take j) fun i hi=>hbd i (List.mem_of_mem_take hi)
  have hlt2:(o.take j).length<=8:=by rw[List.length_take];omega
  have hxi: -20000<=xs.getD i 0/\xs.getD i 0<=20000:=by
   have:=hbd i hio;unfold fS at this;rw[if_pos hbit]at this;exact this
  have hlm:h1.size<h2.size:=heb1;have gm5:h2.size<=h5.size:=by have:=x5.size;omega
  refine zA5 (by kernel_rfl) (h2.size) (.pure 0 (.pure 3 (.pure 4 (.load 5 (.keep 1 (.fork 2 7 (.pure 6 (.keep 7 (.pure 8 (.keep 9 (.fin))))) (.pure 8 (.keep 2 (.pure 6 (.keep 9 (.fin))))))))))) (by kernel_rfl) rfl (by kernel_rfl) ?_;simp only[qg5,q55,ce,Int.toNat_natCast,coreS,Value.cells,Value.oneCell',Nat.reduceAdd,Nat.reduceSub,Nat.reduceMul,Nat.reduceLeDiff,Int.reduceEq,Nat.reduceEqDiff,drawS,treeS,XD,YtejmkibjpaoahaaGreatDoorG6Fs51];refine⟨⟨by omega,by omega⟩,hlm,?_⟩;have hvl2:(fZ m (fF m ((fZ m em4).getD (.int .i64 0)) cm4 em4)).getD (.int .i64 0)= .int .i64 (LS.lsum (fS (fun i=>xs.getD i 0) m) (o.take j)):=by
   rw[UD,if_pos rfl];exact hvl
  have Eadd:EvI (fun i=>xs.getD i 0) o m (j+1) (fF m (.int .i64 (LS.lsum (fS (fun i=>xs.getD i 0) m) (o.take j)+xs.getD i 0)) (jJ m em4 cm4) (fF m ((fZ m em4).getD (.int .i64 0)) cm4 em4)):=by
   have:=E4.add (c1:=cm4) (c2:=jJ m em4 cm4) (v:=(fZ m em4).getD (.int .i64 0)) hjo (by rw[<-hi];exact hbit);rw[<-hi]at this;exact this
  refine ZG ?_;simp only[qg5,coreS,Value.cells,Value.oneCell',Nat.reduceAdd,Nat.reduceSub,Nat.reduceMul,Nat.reduceLeDiff,Int.reduceEq,Nat.reduceEqDiff,drawS,treeS,XD,YtejmkibjpaoahaaGreatDoorG6Fs51];refine⟨RB.refl _ _,?_⟩;refine YG ?_ ?_
  .simp only[coreS,Value.cells,Value.oneCell',Nat.reduceAdd,Nat.reduceSub,Nat.reduceMul,Nat.reduceLeDiff,Int.reduceEq,Nat.reduceEqDiff,drawS,treeS,XD,YtejmkibjpaoahaaGreatDoorG6Fs51];refine zAU Tryz.underlying182 zero2 keysG M5 (a:=m) (by rfl) (by rfl) ?_;simp only[Bool.false_eq_true,if_false,hvl,coreS,Value.cells,Value.oneCell',Nat.reduceAdd,Nat.reduceSub,Nat.reduceMul,Nat.reduceLeDiff,Int.reduceEq,Nat.reduceEqDiff,drawS,treeS,XD,YtejmkibjpaoahaaGreatDoorG6Fs51];refine⟨RB.refl _ _,by rw[zBS];omega,?_⟩;refine ZG ?_;simp only[opW_ment,coreS,Value.cells,Value.oneCell',Nat.reduceAdd,Nat.reduceSub,Nat.reduceMul,Nat.reduceLeDiff,Int.reduceEq,Nat.reduceEqDiff,drawS,treeS,XD,YtejmkibjpaoahaaGreatDoorG6Fs51];refine Zh Tryz.underlying182 zero2 keysG M5 (a:=m) (by rfl) (by rfl) fun h6 w M6 hw6 u6=>⟨RB.zCD u6 (Nat.le_refl _),?_⟩
   simp only[coreS,Value.cells,Value.oneCell',Nat.reduceAdd,Nat.reduceSub,Nat.reduceMul,Nat.reduceLeDiff,Int.reduceEq,Nat.reduceEqDiff,drawS,treeS,XD,YtejmkibjpaoahaaGreatDoorG6Fs51];refine ZG ?_;simp only[opW_est,coreS,Value.cells,Value.oneCell',Nat.reduceAdd,Nat.reduceSub,Nat.reduceMul,Nat.reduceLeDiff,Int.reduceEq,Nat.reduceEqDiff,drawS,treeS,XD,YtejmkibjpaoahaaGreatDoorG6Fs51];refine zBM M6 hw6 (Zg E4.nd) (v:= .int .i64 (LS.lsum (fS (fun i=>xs.getD i 0) m) (o.take j)+xs.getD i 0)) (by rfl) (by rfl) (by rfl) fun h7 M7 u7=>⟨RB.zCD u7 (Nat.le_refl _),?_⟩
   exact⟨by rw[zBS];omega,Zr (by kernel_rfl) ⟨((c4.ext x5).upd u6).upd u7,j+1,by omega,rfl,_,_,M7,Eadd⟩ measj⟩
  .simp only[opW_ment,coreS,Value.cells,Value.oneCell',Nat.reduceAdd,Nat.reduceSub,Nat.reduceMul,Nat.reduceLeDiff,Int.reduceEq,Nat.reduceEqDiff,drawS,treeS,XD,YtejmkibjpaoahaaGreatDoorG6Fs51];refine Zh Tryz.underlying182 zero2 keysG M5 (a:=m) (by rfl) (by rfl) fun h6 w M6 hw6 u6=>⟨RB.zCD u6 (Nat.le_refl _),?_⟩
   simp only[coreS,Value.cells,Value.oneCell',Nat.reduceAdd,Nat.reduceSub,Nat.reduceMul,Nat.reduceLeDiff,Int.reduceEq,Nat.reduceEqDiff,drawS,treeS,XD,YtejmkibjpaoahaaGreatDoorG6Fs51];refine ZG ?_;simp only[coreS,Value.cells,Value.oneCell',Nat.reduceAdd,Nat.reduceSub,Nat.reduceMul,Nat.reduceLeDiff,Int.reduceEq,Nat.reduceEqDiff,drawS,treeS,XD,YtejmkibjpaoahaaGreatDoorG6Fs51];refine zAU Tryz.underlying182 zero2 keysG M6 (a:=m) (by rfl) (by rfl) ?_;simp only[Bool.false_eq_true,if_false,hvl2,coreS,Value.cells,Value.oneCell',Nat.reduceAdd,Nat.reduceSub,Nat.reduceMul,Nat.reduceLeDiff,Int.reduceEq,Nat.reduceEqDiff,drawS,treeS,XD,YtejmkibjpaoahaaGreatDoorG6Fs51];refine⟨RB.refl _ _,by rw[zBS];omega,?_⟩;refine ZG ?_;simp only[opW_est,coreS,Value.cells,Value.oneCell',Nat.reduceAdd,Nat.reduceSub,Nat.reduceMul,Nat.reduceLeDiff,Int.reduceEq,Nat.reduceEqDiff,drawS,treeS,XD,YtejmkibjpaoahaaGreatDoorG6Fs51];refine zBM M6 hw6 (Zg E4.nd) (v:= .int .i64 (LS.lsum (fS (fun i=>xs.getD i 0) m) (o.take j)+xs.getD i 0)) (by rfl) (by rfl) (by rfl) fun h7 M7 u7=>⟨RB.zCD u7 (Nat.le_refl _),?_⟩
   exact⟨by rw[zBS];omega,Zr (by kernel_rfl) ⟨((c4.ext x5).upd u6).upd u7,j+1,by omega,rfl,_,_,M7,Eadd⟩ measj⟩
 obtain rfl:m=N:=by omega
 have hE:∀s,fZ s em=if s<m then valS (fun i=>xs.getD i 0) s o else none:=fun s=>by
  rw[E3.get];by_cases h1:s<m
  .rw[if_pos h1,if_pos h1]
  .rw[if_neg h1,if_neg h1];split<;>rfl
 have hVx:∀x∈em,x.2.1= .int .i64 (LS.lsum (fS (fun i=>xs.getD i 0) x.1) o):=fun x hx=>by
  have h1:=HV E3.nd hx rfl;rw[hE]at h1;split at h1
  .unfold valS at h1;split at h1
   .exact(Option.some.inj h1).symm
   .cases h1
  .cases h1
 have hs3:=c3.size;rw[Rh]at hs3;simp only[he3,show¬((m:Int)<(m:Int)) by omega,decide_false,coreS,Value.cells,Value.oneCell',Nat.reduceAdd,Nat.reduceSub,Nat.reduceMul,Nat.reduceLeDiff,Int.reduceEq,Nat.reduceEqDiff,YtejmkibjpaoahaaGreatDoorG6Fs51];refine Yg Tryz.underlying182 M3 (by rfl) ?_;simp only[coreS,Value.cells,Value.oneCell',Nat.reduceAdd,Nat.reduceSub,Nat.reduceMul,Nat.reduceLeDiff,Int.reduceEq,Nat.reduceEqDiff,YtejmkibjpaoahaaGreatDoorG6Fs51];refine zAi [12,13,61,62,63,64,65,66,67,68,69] (fun e h'=>Chg h3 h' h2.size/\∃seen eZ c0,h'[h3.size]? =some (.mapIter (some h2.size) cm seen c0)/\cm<=c0/\jU kvG h' h2.size eZ cm/\eZ.Sublist em/\(∀x∈em,LS.lsum (fS (fun i=>xs.getD i 0) x.1) o=0->x∈eZ)/\(∀x∈eZ,seen.contains x.2.2=true->LS.lsum (fS (fun i=>xs.getD i 0) x.1) o=0)) (fun _ h'=>XP h3.size h2.size h') ⟨Chg.Sg ((Ext.refl _).push _) _,#[],em,cm,jD,Nat.le_refl _,M3.ext ((Ext.refl _).push _),List.Sublist.refl _,fun x hx _=>hx,fun x hx hs=>by simp at hs⟩ ?_;rintro e4 h4 ⟨c4,seen,eZ,c0,hit,hc0,M4,hsub,hin,hseen⟩;have hμ:=zAW M4 hit;have hr4:=bA hit;have hs4:=c4.size;simp only[coreS,Value.cells,Value.oneCell',Nat.reduceAdd,Nat.reduceSub,Nat.reduceMul,Nat.reduceLeDiff,Int.reduceEq,Nat.reduceEqDiff,YtejmkibjpaoahaaGreatDoorG6Fs51];refine zAK M4 hit M4.lt hc0 (by rfl) ?_ ?_
 .intro hall;simp only[coreS,Value.cells,Value.oneCell',Nat.reduceAdd,Nat.reduceSub,Nat.reduceMul,Nat.reduceLeDiff,Int.reduceEq,Nat.reduceEqDiff,YtejmkibjpaoahaaGreatDoorG6Fs51];have hZn:(eZ.map (·.1)).Nodup:=E3.nd.sublist (hsub.map _);have hZ:∀s,(fZ s eZ).isSome=true<->s<m/\o.any (fun i=>s.testBit i)=true/\LS.lsum (fS (fun i=>xs.getD i 0) s) o=0:=fun s=>by
   constructor
   .intro hs;obtain⟨v,hv⟩:=Option.isSome_iff_exists.1 hs;obtain⟨w,hw⟩:=Tt hv;have h1:=hseen _ hw (hall _ hw);have h2:=hE s;rw[HV E3.nd (hsub.subset hw) rfl]at h2;split at h2
    .rename_i hlt;refine⟨hlt,?_,h1⟩;unfold valS at h2;split at h2
     .assumption
     .cases h2
    .cases h2
   .rintro⟨h1,h2,h3⟩;have h4:=hE s;rw[if_pos h1]at h4;unfold valS at h4;rw[if_pos h2]at h4;obtain⟨w,hw⟩:=Tt h4;rw[HV hZn (hin _ hw h3) rfl];rfl
  clear hall hseen hin hsub hμ hit;refine Oy jD (by simp) fun h5 g5 u5=> ?_
  simp only[splice,List.drop,List.take]at g5;have s5:=u5.size;rw[Rh]at s5;have c5:Chg h3 h5 h2.size:=(c4.trans (Chg.Sg ((Ext.refl h4).push (.cells #[.int .i64 0] 184)) h2.size)).zBk u5 (by omega);have M5:jU kvG h5 h2.size eZ cm:=(M4.ext ((Ext.refl h4).push (.cells #[.int .i64 0] 184))).keep (u5.old _ (by omega));have I5:eu h5 aO o.length (nz o):=((OO.ints.ext xm).chg (jU.empty (kv:=kvG) h2).obj c3).chg M3.obj c5;have hg5:h5[g0]? =some (.cells #[.int .i64 k,.int .i64 cl,.slice a n c] 181):=c5.get (c3.get hgm (by have:=bA hg2;omega)) (by have:=bA hg2;omega);simp only[coreS,Value.cells,Value.oneCell',Nat.reduceAdd,Nat.reduceSub,Nat.reduceMul,Nat.reduceLeDiff,Int.reduceEq,Nat.reduceEqDiff,YtejmkibjpaoahaaGreatDoorG6Fs51];have OO5:=((OO.ext xm).keep (h':=h3) fun p hp=>c3.old _ (by have:=(OO.lt hp).1;rw[Rh];omega) (by have:=(OO.lt hp).1;omega)).keep (h':=h5) fun p hp=>c5.old _ (by have:=(OO.lt hp).1;omega) (by have:=(OO.lt hp).1;omega)
  refine zAi [16,73,74,75,76,77,78,79,80,81,82,83] (fun e h'=>Upd h5 h' h4.size/\∃t:Nat,t<=o.length/\e 73= .int .i64 t/\∃w:Nat,w<256/\(∀i,w.testBit i=true<->i∈o.take t)/\h'[h4.size]? =some (.cells #[.int .i64 w] 184)) (fun e _=>match e 73 with| .int _ q=>o.length-q.toNat|_=>0) ⟨Upd.refl _ _,0,by omega,rfl,0,by omega,fun i=>by rw[Nat.zero_testBit];simp,g5⟩ ?_;rintro e6 h6 ⟨u6,t,ht,he6,w,hw,hbits,g6⟩;by_cases hto:t<o.length
  .have hlt:(t:Int)<(o.length:Int):=by omega
   have meas:o.length-((t:Int)+1).toNat<o.length-(t:Int).toNat:=by omega
   obtain⟨i,hi⟩:∃i,i=o.getD t 0:=⟨_,rfl⟩;have hio:i∈o:=by rw[hi,List.getD_eq_getElem?_getD,List.getElem?_eq_getElem hto];exact List.getElem_mem hto
   have hi8:=ho8 i hio;have OO6:=OO5.keep (h':=h6) fun p hp=>u6.old _ (by have:=(OO.lt hp).1;omega)
   have ci:=OO6.ints.cell (j:=t) (by rw[nz_length];exact hto);have si:=OO6.ints.isSome (by rw[nz_length];omega);rw[nz_getD,<-hi]at ci;have e1i:(1:Int)*2^i=((2^i:Nat):Int):=by rw[Int.one_mul];simp
   have h2i:2^i<=128:=by
    have:2^i<=2^7:=Nat.pow_le_pow_right (by decide) (by omega);simpa using this
   have eor:=gbits_or w (2^i) (by omega) (by omega);simp only[he6,hlt,ci,decide_true,Int.toNat_natCast,coreS,Value.cells,Value.oneCell',Nat.reduceAdd,Nat.reduceSub,Nat.reduceMul,Nat.reduceLeDiff,Int.reduceEq,Nat.reduceEqDiff,YtejmkibjpaoahaaGreatDoorG6Fs51];refine⟨by omega,si,?_⟩;refine zB9 (by kernel_rfl) zBp [(0,0),(1,0),(2,0),(3,0),(4,0),(5,0),(6,1)] (by kernel_rfl) rfl (by kernel_rfl) ?_;simp only[g6,e1i,eor,Int.toNat_natCast,Ye,coreS,Value.cells,Value.oneCell',Nat.reduceAdd,Nat.reduceSub,Nat.reduceMul,Nat.reduceLeDiff,Int.reduceEq,Nat.reduceEqDiff,drawS,YtejmkibjpaoahaaGreatDoorG6Fs51];have hInK:∀z:Nat,z<=128->InK .i64 (z:Int):=fun z hz=>by rw[zBS];omega
   refine⟨by omega,by simp[IntKind.bits];omega,hInK _ h2i,?_⟩;refine Oy (c:=[.int .i64 w]) g6 (by simp) fun h7 g7 u7=> ?_
   simp only[splice,List.drop,List.take]at g7;simp only[he6,Ye,coreS,Value.cells,Value.oneCell',Nat.reduceAdd,Nat.reduceSub,Nat.reduceMul,Nat.reduceLeDiff,Int.reduceEq,Nat.reduceEqDiff,drawS,YtejmkibjpaoahaaGreatDoorG6Fs51];refine⟨by rw[zBS];omega,Zr (by kernel_rfl) ⟨u6.trans u7,t+1,by omega,rfl,w|||2^i,?_,fun x=> ?_,g7⟩ meas⟩
   .have:=Nat.or_lt_two_pow (n:=8) (x:=w) (y:=2^i) (by omega) (by omega);simpa using this
   .have e:o.take (t+1)=o.take t++[i]:=by
     rw[List.take_add_one,List.getElem?_eq_getElem hto,hi,List.getD_eq_getElem?_getD,List.getElem?_eq_getElem hto];rfl
    rw[e,List.mem_append,List.mem_singleton,Nat.testBit_or,Nat.testBit_two_pow,Bool.or_eq_true,hbits,decide_eq_true_eq];constructor
    .rintro(h|h)
     .exact .inl h
     .exact .inr h.symm
    .rintro(h|h)
     .exact .inl h
     .exact .inr h.symm
  obtain rfl:t=o.length:=by omega
  rw[List.take_length]at hbits;simp only[he6,g6,show¬((o.length:Int)<(o.length:Int)) by omega,decide_false,coreS,Value.cells,Value.oneCell',Nat.reduceAdd,Nat.reduceSub,Nat.reduceMul,Nat.reduceLeDiff,Int.reduceEq,Nat.reduceEqDiff,YtejmkibjpaoahaaGreatDoorG6Fs51];have hEv:=even_iff hxs hok hNe (by rw[<-ho];exact hbits) (by rw[<-ho];exact hZ);have hAz:=all_zero hxs hok hk (by rw[<-ho];exact hbits);have hAm:=all_msk hxs (by rw[<-ho];exact hbits);have s6:=u6.size;have M6:jU kvG h6 h2.size eZ cm:=M5.keep (u6.old _ (by omega));have xf:Ext h6 (h6.push (.map #[] 0)):=(Ext.refl h6).push _;have hM6:=bA M6.obj;have F6:Fnd (LS.zero (fun i=>xs.getD i 0) 8) (h6.push (.map #[] 0)) h6.size [] 0:=⟨jU.empty h6,fun s v hv=>by cases hv⟩;refine ak.mono (divide127 (fun i=>xs.getD i 0) 8 w h2.size h6.size cm eZ hw (by omega) hEv w [] 0 _ (Nat.and_self w) hAz (M6.ext xf) F6) ?_;rintro v h8 ⟨⟨a8,n8,k8,ps,rfl,hn8,O8,hpt,hmost⟩,c8,fs,fc,F8⟩;simp only[coreS,Value.cells,Value.oneCell',Nat.reduceAdd,Nat.reduceSub,Nat.reduceMul,Nat.reduceLeDiff,Int.reduceEq,Nat.reduceEqDiff,YtejmkibjpaoahaaGreatDoorG6Fs51];have g8:h8[g0]? =some (.cells #[.int .i64 k,.int .i64 cl,.slice a n c] 181):=c8.get (xf.get (u6.get hg5 (by have:=bA hg2;omega))) (by have:=bA hg2;omega);have hnw:n8<=256:=by have:=pt_le hpt;omega
  refine zAi [17,19,20,21,89,90,91,92,93,94,95,96,97,98,99,100,101,102,103,104,105,106,107,108,109,110,111,112,113] (fun e h'=>Ext h8 h'/\∃j:Nat,j<=n8/\e 89= .int .i64 j/\∃aL cL G,e 17= .slice aL j cL/\G.length=j/\iV h8.size h' 29 1 aL j cL (hdsV (G.map (·.1)))/\Bld k h' G/\G.map (·.2)=ps.take j) (fun e _=>match e 89 with| .int _ q=>n8-q.toNat|_=>0) ⟨Ext.refl _,0,by omega,rfl,none,0,[],rfl,rfl,iV.nil _ _ _ _,(fun g hg=>by cases hg),rfl⟩ ?_;rintro e9 h9 ⟨x9,j,hj,he9,aL,cL,G,heL,hGl,OL,hB,hGp⟩;by_cases hjn:j<n8
  case neg=>
   obtain rfl:n8=j:=by omega
   simp only[he9,heL,show¬((n8:Int)<(n8:Int)) by omega,decide_false,coreS,Value.cells,Value.oneCell',Nat.reduceAdd,Nat.reduceSub,Nat.reduceMul,Nat.reduceLeDiff,Int.reduceEq,Nat.reduceEqDiff,YtejmkibjpaoahaaGreatDoorG6Fs51];have hXX:Ext h h8:=by
    have z2:=y2.size;have w3:Ext h h3:=Chg.fresh (y2.trans xm) c3 z2;have w5:Ext h h5:=Chg.fresh w3 c5 z2;have w6:Ext h h6:=u6.ext w5 (by omega);exact Chg.fresh (w6.trans xf) c8 (by omega)
   have hp1:∀g∈G,0<(acc g.2 k).length:=fun g hg=>by
    have h1:g.2∈ps:=by
     have h2:g.2∈G.map (·.2):=List.mem_map.2 ⟨g,hg,rfl⟩;rw[hGp]at h2;exact List.mem_of_mem_take h2
    have h2:=pt_and hpt h1;refine acc_pos (pt_ne hpt h1).1 fun i hi=> ?_
    rw[<-h2,Nat.testBit_and,Bool.and_eq_true]at hi;have h3:=(hbits i).1 hi.2;rw[ho]at h3;obtain⟨h4,h5⟩:=opL8_mem.1 h3;refine Nat.lt_of_not_le fun hle=>h5 ?_
    rw[hxs,bals_get es day h4];exact balA_far hok hle
   have hps:ps.take n8=ps:=List.take_of_length_le (by omega);rw[hps]at hGp;rcases OL.ok with⟨rfl,e1,rfl⟩|⟨gb,cur,rfl,hgb,hcur,hcs,hnc,htk⟩
   .subst e1;refine ak.mono (sortFunc128_nil h9) ?_;rintro v h10 rfl;simp only[coreS,Value.cells,Value.oneCell',Nat.reduceAdd,Nat.reduceSub,Nat.reduceMul,Nat.reduceLeDiff,Int.reduceEq,Nat.reduceEqDiff,YtejmkibjpaoahaaGreatDoorG6Fs51];have hG0:G=[]:=List.length_eq_zero_iff.1 hGl;subst hG0;exact⟨⟨none,0,0,[],rfl,rfl,iV.nil _ _ _ _,hB,List.Pairwise.nil,⟨ps,by rw[hGp],by rw[<-hAm];exact hpt⟩,by rw[<-hAm];exact hmost⟩,hXX.trans x9⟩
   have hcw:cur=(hdsV (G.map (·.1))++cur.toList.drop (n8*1)).toArray:=by rw[<-htk];simp
   obtain⟨tl,htl⟩:∃tl,tl=cur.toList.drop (n8*1):=⟨_,rfl⟩;rw[<-htl]at hcw;have hk9:∀g∈G,keyH h9 g.1=((acc g.2 k).getD 0 0:Nat):=fun g hg=>by
    unfold keyH;rw[bld_key hB hcur hg (hp1 g hg) (Upd.refl h9 gb)]
   have hnl:n8<=8:=by
    have h1:=pt_len (n:=8) hpt fun i hi=>ho8 i ((hbits i).1 hi)
    have h2:=acc_le w 8;omega
   refine ak.mono (sortFunc128 gb cL n8 (keyH h9) (G.map (·.1)) tl h9 (by rw[<-hcw];exact hcur) (by simp[hGl]) (by omega) fun u hu=> ?_) ?_
   .obtain⟨g,hg,rfl⟩:=List.mem_map.1 hu;have h1:=bld_some hB hg (hp1 g hg);have h2:(acc g.2 k).getD 0 0<8:=by
     have h3:=hp1 g hg;rw[List.getD_eq_getElem?_getD,List.getElem?_eq_getElem h3];have:=(acc_mem.1 (List.getElem_mem h3)).1;show(acc g.2 k)[0]<8;omega
    refine⟨h1.1,h1.2,by rw[hk9 g hg];omega,fun h' u=> ?_⟩;rw[hk9 g hg];exact bld_key hB hcur hg (hp1 g hg) u
   rintro v h10 ⟨u10,T,hTp,hTs,hT10⟩;simp only[coreS,Value.cells,Value.oneCell',Nat.reduceAdd,Nat.reduceSub,Nat.reduceMul,Nat.reduceLeDiff,Int.reduceEq,Nat.reduceEqDiff,YtejmkibjpaoahaaGreatDoorG6Fs51];obtain⟨G',hGp',hGm'⟩:=perm_lift hTp rfl;have hsub:∀g∈G',g∈G:=fun g hg=>hGp'.subset hg
   refine⟨⟨_,n8,cL,G',rfl,by rw[hGp'.length_eq,hGl],⟨?_,.inr ⟨gb,_,rfl,by have:=hXX.size;omega,hT10,?_,hnc,?_⟩⟩,fun g hg=>(hB.upd hcur u10) g (hsub g hg),?_,⟨ps,by rw[<-hGp];exact hGp'.map _,by rw[<-hAm];exact hpt⟩,by rw[<-hAm];exact hmost⟩,u10.ext (hXX.trans x9) (by have:=hXX.size;omega)⟩
   .rw[hdsV_length,List.length_map,hGp'.length_eq,hGl,Nat.mul_one]
   .have h1:=congrArg Array.size hcw;have h2:=hTp.length_eq;simp only[List.size_toArray,List.length_append,hdsV_length,List.length_map]at h1 h2 ⊢;omega
   .rw[hGm',List.toList_toArray,List.take_append_of_le_length (by rw[hdsV_length,hTp.length_eq,List.length_map,hGl];omega),List.take_of_length_le (by rw[hdsV_length,hTp.length_eq,List.length_map,hGl];omega)]
   .rw[<-hGm',List.pairwise_map]at hTs;refine hTs.imp_of_mem fun{x y} hx hy hxy=> ?_
    rw[hk9 x (hsub x hx),hk9 y (hsub y hy)]at hxy;omega
  have hltj:(j:Int)<(n8:Int):=by omega
  have measj:n8-((j:Int)+1).toNat<n8-(j:Int).toNat:=by omega
  have hjp:j<ps.length:=by omega
  obtain⟨p,hp⟩:∃p,p=ps[j]:=⟨_,rfl⟩;have O9:=O8.ext x9;have cp:gm h9 (lg a8 j) 1=some [.int .i64 (p:Nat)]:=by
   rw[O9.row.cells (j:=j) (n:=1) (by rw[aR,nz_length];omega) (by decide),List.drop_eq_getElem_cons (by rw[aR,nz_length];omega),hp];simp[ints,nz]
  have s8:a8.isSome=true:=by
   rcases O9.ok with⟨_,h1,_⟩|⟨g,cur,h1,_⟩
   .omega
   .rw[h1];rfl
  have pw:p&&&w=p:=pt_and hpt (by rw[hp];exact List.getElem_mem hjp);simp only[he9,heL,hltj,cp,decide_true,Int.toNat_natCast,coreS,Value.cells,Value.oneCell',Nat.reduceAdd,Nat.reduceSub,Nat.reduceMul,Nat.reduceLeDiff,Int.reduceEq,Nat.reduceEqDiff,YtejmkibjpaoahaaGreatDoorG6Fs51];refine⟨by omega,s8,?_⟩;refine Oy jD (by simp) fun h10 g10 u10=> ?_
  simp only[splice,List.drop,List.take,List.append_nil,List.nil_append,List.length_cons,List.length_nil]at g10;have s10:=u10.size;rw[Rh]at s10;have x10:Ext h9 h10:=u10.ext ((Ext.refl h9).push _) (Nat.le_refl _);have g10b:h10[g0]? =some (.cells #[.int .i64 k,.int .i64 cl,.slice a n c] 181):=x10.get (x9.get g8);have OL10:=OL.ext x10;have hB10:=hB.ext x10;have ip:p<256:=by
   have:p&&&w<=w:=Nat.and_le_right;omega
  simp only[g10b,coreS,Value.cells,Value.oneCell',Nat.reduceAdd,Nat.reduceSub,Nat.reduceMul,Nat.reduceLeDiff,Int.reduceEq,Nat.reduceEqDiff,YtejmkibjpaoahaaGreatDoorG6Fs51];refine zAi [20,21,98,99,100,101,102,103,104,105,106,107,108] (fun e h'=>Ext h10 h'/\∃i:Nat,i<=k/\e 98= .int .i64 i/\∃aA cA,e 20= .slice aA (acc p i).length cA/\eG h10.size h' 3 aA (acc p i).length cA (nz (acc p i))) (fun e _=>match e 98 with| .int _ q=>k-q.toNat|_=>0) ⟨Ext.refl _,0,by omega,rfl,none,0,rfl,eG.nil _ _ _⟩ ?_;rintro e11 h11 ⟨x11,i,hi,he11,aA,cA,heA,OA⟩;by_cases hik:i<k
  case neg=>
   obtain rfl:k=i:=by omega
   simp only[he9,heL,he11,heA,show¬((k:Int)<(k:Int)) by omega,decide_false,splice,List.drop,List.take,List.append_nil,List.nil_append,List.length_cons,List.length_nil,coreS,Value.cells,Value.oneCell',Nat.reduceAdd,Nat.reduceSub,Nat.reduceMul,Nat.reduceLeDiff,Int.reduceEq,Nat.reduceEqDiff,YtejmkibjpaoahaaGreatDoorG6Fs51];have xg:Ext h11 (h11.push (.cells #[.slice aA (acc p k).length cA] 29)):=(Ext.refl h11).push _;have xx:=x11.trans xg;have OL11:=OL10.ext xx;have z8:h8.size<=h11.size:=Nat.le_trans x9.size (Nat.le_trans x10.size x11.size);refine app73 (m0:=h8.size) (len:=j) (T:=G.map (·.1)) (U:=[(aA,(acc p k).length,cA)]) rfl rfl OL11 (by rw[Rh];omega) (Row.block (c:=hdsV [(aA,(acc p k).length,cA)]) jD) rfl (by omega) fun a' cap' h5 O5 A5=> ?_
   have OAg:=ownI_beside (OA.ext xg) A5 OL11 (by decide);have hB5:Bld k h5 (G++[((aA,(acc p k).length,cA),p)]):=fun g hg=>by
    rcases List.mem_append.1 hg with hg|hg
    .have h1:=(hB10.ext xx) g hg;exact⟨h1.1,ownI_beside h1.2 A5 OL11 (by decide)⟩
    .rw[List.mem_singleton.1 hg];exact⟨rfl,OAg.mono (Nat.zero_le _)⟩
   simp only[he9,heL,he11,heA,coreS,Value.cells,Value.oneCell',Nat.reduceAdd,Nat.reduceSub,Nat.reduceMul,Nat.reduceLeDiff,Int.reduceEq,Nat.reduceEqDiff,YtejmkibjpaoahaaGreatDoorG6Fs51];refine⟨by rw[zBS];omega,Zr (by kernel_rfl) ⟨A5.extV OL11 ((x9.trans x10).trans xx) (Nat.le_refl _),j+1,by omega,rfl,a',cap',G++[((aA,(acc p k).length,cA),p)],rfl,by simp[hGl],by rw[List.map_append];exact O5,hB5,?_⟩ measj⟩;rw[List.map_append,hGp,List.take_add_one,List.getElem?_eq_getElem hjp,<-hp];rfl
  have hlti:(i:Int)<(k:Int):=by omega
  have measi:k-((i:Int)+1).toNat<k-(i:Int).toNat:=by omega
  have g11:=x11.get g10;have nx:=acc_next p i;have le:=acc_le p i;simp only[he11,heA,hlti,g11,decide_true,Int.toNat_natCast,coreS,Value.cells,Value.oneCell',Nat.reduceAdd,Nat.reduceSub,Nat.reduceMul,Nat.reduceLeDiff,Int.reduceEq,Nat.reduceEqDiff,YtejmkibjpaoahaaGreatDoorG6Fs51];refine ak.mono (has126 p i (by omega) (by omega) h11) ?_;rintro v h12 ⟨rfl,x12⟩;cases hbit:p.testBit i with
  |false=>
   rw[if_neg (by rw[hbit];decide),List.append_nil]at nx;simp only[he11,heA,coreS,Value.cells,Value.oneCell',Nat.reduceAdd,Nat.reduceSub,Nat.reduceMul,Nat.reduceLeDiff,Int.reduceEq,Nat.reduceEqDiff,YtejmkibjpaoahaaGreatDoorG6Fs51];exact⟨by rw[zBS];omega,Zr (by kernel_rfl) ⟨x11.trans x12,i+1,by omega,rfl,aA,cA,by rw[nx];rfl,by rw[nx];exact OA.ext x12⟩ measi⟩
  |true=>
   rw[if_pos hbit]at nx;simp only[he11,heA,coreS,Value.cells,Value.oneCell',Nat.reduceAdd,Nat.reduceSub,Nat.reduceMul,Nat.reduceLeDiff,Int.reduceEq,Nat.reduceEqDiff,YtejmkibjpaoahaaGreatDoorG6Fs51];have OA':=(OA.ext x12).ext ((Ext.refl h12).push (.cells #[.int .i64 (i:Int)] 3));refine app40 (m0:=h10.size) (len:=(acc p i).length) (m:=1) (ys:=[(i:Int)]) rfl rfl OA' (by rw[Rh];have:=(x11.trans x12).size;omega) (intsV_one jD) (by omega) fun a' cap' h5 O5 A5=> ?_
   have ell:(acc p i).length+1=(acc p (i+1)).length:=by rw[nx];simp
   rw[nz_snoc,<-nx,ell]at O5;simp only[he11,coreS,Value.cells,Value.oneCell',Nat.reduceAdd,Nat.reduceSub,Nat.reduceMul,Nat.reduceLeDiff,Int.reduceEq,Nat.reduceEqDiff,YtejmkibjpaoahaaGreatDoorG6Fs51];refine⟨by rw[zBS];omega,Zr (by kernel_rfl) ⟨A5.extN OA' ((x11.trans x12).push _) (Nat.le_refl _),i+1,by omega,rfl,a',cap',by rw[<-ell];rfl,O5⟩ measi⟩
 .intro x hx hxs h5 hr5 u5;simp only[coreS,Value.cells,Value.oneCell',Nat.reduceAdd,Nat.reduceSub,Nat.reduceMul,Nat.reduceLeDiff,Int.reduceEq,Nat.reduceEqDiff,YtejmkibjpaoahaaGreatDoorG6Fs51];have M5:jU kvG h5 h2.size eZ cm:=M4.keep (u5.old _ (by omega));simp only[Zd];refine Yi M5 hx hr5 (by rfl) ?_;have hxv:=hVx x (hsub.subset hx);simp only[hxv,kvG,coreS,Value.cells,Value.oneCell',Nat.reduceAdd,Nat.reduceSub,Nat.reduceMul,Nat.reduceLeDiff,Int.reduceEq,Nat.reduceEqDiff,YtejmkibjpaoahaaGreatDoorG6Fs51];refine Oy jD (by simp) fun h6 g6 u6=> ?_
  simp only[splice,List.drop,List.take]at g6;have s5:=u5.size;have s6:=u6.size;rw[Rh]at s6;have c6:Chg h3 h6 h2.size:=((c4.zBk u5 (Nat.le_refl _)).trans (Chg.Sg ((Ext.refl h5).push (.cells #[.int .i64 0] 184)) h2.size)).zBk u6 (by omega);have hr6:h6[h3.size]? =some (.mapIter (some h2.size) cm (seen.push x.2.2) cm):=u6.get (Jy hr5) (by omega);have M6:jU kvG h6 h2.size eZ cm:=(M5.ext ((Ext.refl h5).push (.cells #[.int .i64 0] 184))).keep (u6.old _ (by omega));have hnod:(eZ.map (·.1)).Nodup:=E3.nd.sublist (hsub.map _);have hbn:∀y∈eZ,y.2.2=x.2.2->y=x:=fun y hy hye=>zBU M4.born hy hx hye
  have hpush:∀w:Nat,(seen.push x.2.2).contains w=(seen.contains w||decide (w=x.2.2)):=fun w=>by
   simp[Array.contains_push,eq_comm]
  have hdec:(eZ.filter fun y=> !(seen.push x.2.2).contains y.2.2).length<(eZ.filter fun y=> !seen.contains y.2.2).length:=by
   refine Go.Eng.filter_lt (fun y hy=> ?_) hx ?_ ?_
   .rw[hpush];simp;exact fun h _=>h
   .simpa using hxs
   .simp[hpush]
  by_cases h0:LS.lsum (fS (fun i=>xs.getD i 0) x.1) o=0
  .simp only[h0,g6,decide_true,Bool.not_true,coreS,Value.cells,Value.oneCell',Nat.reduceAdd,Nat.reduceSub,Nat.reduceMul,Nat.reduceLeDiff,Int.reduceEq,Nat.reduceEqDiff,YtejmkibjpaoahaaGreatDoorG6Fs51];refine Zr (by kernel_rfl) ⟨c6,seen.push x.2.2,eZ,cm,hr6,Nat.le_refl _,M6,hsub,hin,fun y hy hys=> ?_⟩ ?_
   .rw[hpush,Bool.or_eq_true,decide_eq_true_eq]at hys;rcases hys with hys|hys
    .exact hseen y hy hys
    .rw[hbn y hy hys];exact h0
   .rw[zAW M6 hr6,hμ];exact hdec
  .simp only[h0,g6,decide_false,Bool.not_false,coreS,Value.cells,Value.oneCell',Nat.reduceAdd,Nat.reduceSub,Nat.reduceMul,Nat.reduceLeDiff,Int.reduceEq,Nat.reduceEqDiff,YtejmkibjpaoahaaGreatDoorG6Fs51];refine zBF Tryz.underlying182 keysG M6 (a:=x.1) (by rfl) (by rfl) fun h7 M7 u7=> ?_
   simp only[coreS,Value.cells,Value.oneCell',Nat.reduceAdd,Nat.reduceSub,Nat.reduceMul,Nat.reduceLeDiff,Int.reduceEq,Nat.reduceEqDiff,YtejmkibjpaoahaaGreatDoorG6Fs51];have hr7:h7[h3.size]? =some (.mapIter (some h2.size) cm (seen.push x.2.2) cm):=u7.get hr6 (by omega);refine Zr (by kernel_rfl) ⟨c6.upd u7,seen.push x.2.2,_,cm,hr7,Nat.le_refl _,M7,zY.trans hsub,fun y hy hyc=> ?_,fun y hy hys=> ?_⟩ ?_
   .refine(delA_memG hnod).2 ⟨hin y hy hyc,fun hye=>h0 ?_⟩;rw[<-hye];exact hyc
   .obtain⟨hy1,hy2⟩:=(delA_memG hnod).1 hy;rw[hpush,Bool.or_eq_true,decide_eq_true_eq]at hys;rcases hys with hys|hys
    .exact hseen y hy1 hys
    .exact absurd (by rw[hbn y hy1 hys]) hy2
   .rw[zAW M7 hr7,hμ];refine Nat.lt_of_le_of_lt ?_ hdec;exact(zY.filter _).length_le
end
end Go.Proofs.YtejmkibjpaoahaaGreatDoor
end
section
namespace Go.Proofs.YtejmkibjpaoahaaGreatDoor
open Go Go.Proofs Go.Eng Go.Run Tab
set_option maxRecDepth 100000
set_option linter.unusedSimpArgs false
set_option linter.unusedVariables false
set_option linter.defProp false
set_option maxHeartbeats 4000000
set_option linter.defProp false
def YtejmkibjpaoahaaGreatDoorG7Fs17:=(And.intro (And.intro (And.intro @agg35 @by3) (And.intro @inf3 @inf35)) (And.intro (And.intro @sz3 @sz35) (And.intro @zero3 (And.intro @Tryz.underlying29 @Tryz.underlying71))))
def l8 (es:List En)(day:Int)(i:Nat):Int:=(bals 8 es day).getD i 0
theorem fewest49 (acc cl:Int)(a:Option Addr)(n c:Nat)(es:List En)(day:Int)(h:Eng.Heap)(hr:Row h a (ensV es))(hn:n=es.length)(hl:n<=1000000):
 ak Tryz.prog 17 #[.agg #[.int .i64 acc,.int .i64 cl,.slice a n c],.int .i64 day] h (fun v h'=>((opn acc cl es [day]=0/\∃j:Nat,LS.Most (LS.zero (l8 es day) 8) (LS.msk (LS.opn (l8 es day)) 8) j/\j<=8/\v= .tuple #[.int .i64 ((LS.opens (l8 es day) 8:Nat)-(j:Nat):Int),.int .i64 0])\/
  (opn acc cl es [day]≠0/\v= .tuple #[.int .i64 0,.int .i64 (opn acc cl es [day])]))/\Ext h h'):=by
 (refine Rm Tryz.func17 rfl bod17 ?_;simp only[Tryz.ntmps17,Tryz.results17,coreS,U1,splice,Value.cells,Value.oneCell',Nat.reduceAdd,Nat.reduceSub,Nat.reduceMul,Nat.reduceLeDiff,Int.reduceEq,Nat.reduceEqDiff,YtejmkibjpaoahaaGreatDoorG7Fs17])
 refine ak.mono (open72 acc cl a n c es _ 1 1 [day] _ ((hr.push _).push _) hn hl (intsV_one pn1) (by omega)) ?_;rintro v h1 ⟨x1,H⟩;have y1:=x1.zBe.zBe;rcases H with⟨e0,g,rfl,hg,hsz⟩|⟨e0,rfl⟩
 .obtain⟨hc,hd⟩:=opn_ok e0;obtain⟨ha,hl2,hcl,hok,hso,hft⟩:=chk_ok hc;obtain⟨k,rfl⟩:∃k:Nat,acc=k:=⟨acc.toNat,by omega⟩;have hb1:=x1.get pn0;simp only[hb1,coreS,Value.cells,Value.oneCell',Nat.reduceAdd,Nat.reduceSub,Nat.reduceMul,Nat.reduceLeDiff,Int.reduceEq,Nat.reduceEqDiff,YtejmkibjpaoahaaGreatDoorG7Fs17];refine ak.mono (balances79 g k cl a n c es day h1 hg (hr.ext y1) hn (by omega) hok ha.2 hft) ?_;rintro v h2 ⟨rfl,x2⟩;simp only[coreS,Value.cells,Value.oneCell',Nat.reduceAdd,Nat.reduceSub,Nat.reduceMul,Nat.reduceLeDiff,Int.reduceEq,Nat.reduceEqDiff,YtejmkibjpaoahaaGreatDoorG7Fs17];refine ak.mono (open97 (bals 8 es day) (bals_length _ _ _) h2) ?_;rintro v h3 ⟨⟨aO,cO,rfl,OO⟩,x3⟩;simp only[coreS,Value.cells,Value.oneCell',Nat.reduceAdd,Nat.reduceSub,Nat.reduceMul,Nat.reduceLeDiff,Int.reduceEq,Nat.reduceEqDiff,YtejmkibjpaoahaaGreatDoorG7Fs17];have y3:=(y1.trans x2).trans x3;refine ak.mono (groups98 g k cl a n c es day h3 ((x2.trans x3).get hg) (hr.ext y3) hn (by omega) hok (by omega) hft) ?_;rintro v h4 ⟨⟨a4,n4,c4,G,rfl,hGl,O4,B4,S4,⟨ps,P1,P2⟩,hm⟩,x4⟩;have hn4:n4<=8:=by
   have h1:=P1.length_eq;have h2:=pt_len (n:=8) P2 fun i hi=>by
    rw[LS.msk_bit,Bool.and_eq_true,decide_eq_true_eq]at hi;exact hi.1
   have h3:=acc_le (LS.msk (LS.opn fun i=>(bals 8 es day).getD i 0) 8) 8;rw[List.length_map]at h1;omega
  have hO:=opL8_le (bals 8 es day) 8;simp only[coreS,Value.cells,Value.oneCell',Nat.reduceAdd,Nat.reduceSub,Nat.reduceMul,Nat.reduceLeDiff,Int.reduceEq,Nat.reduceEqDiff,YtejmkibjpaoahaaGreatDoorG7Fs17];exact⟨by rw[zBS];omega,.inl ⟨e0,n4,hm,hn4,rfl⟩,y3.trans x4⟩
 .simp only[e0,decide_false,Bool.not_false,coreS,Value.cells,Value.oneCell',Nat.reduceAdd,Nat.reduceSub,Nat.reduceMul,Nat.reduceLeDiff,Int.reduceEq,Nat.reduceEqDiff,YtejmkibjpaoahaaGreatDoorG7Fs17];exact⟨.inr e0,y1⟩
theorem sm_cut {F:Nat->Int}{k:Nat}(hF:∀i,k<=i->F i=0):∀d,LS.sm F (k+d)=LS.sm F k
 |0=>rfl
 |d+1=>by
  show LS.sm F (k+d)+F (k+d)=LS.sm F k;rw[sm_cut hF d,hF _ (by omega)];omega
theorem cut8 {l:Nat->Int}{k:Nat}(hk:k<=8)(h:∀i,k<=i->l i=0):LS.zero l 8=LS.zero l k/\LS.msk (LS.opn l) 8=LS.msk (LS.opn l) k/\LS.opens l 8=LS.opens l k:=by
 have e8:8=k+(8-k):=by omega
 refine⟨funext fun t=> ?_,?_,?_⟩
 .unfold LS.zero;have:=sm_cut (F:=fun i=>if t.testBit i then l i else 0) (k:=k) (fun i hi=>by show(if t.testBit i then l i else 0)=0;rw[h i hi];split<;>rfl) (8-k);rw[<-e8]at this;rw[this]
 .apply Nat.eq_of_testBit_eq;intro i;rw[LS.msk_bit,LS.msk_bit];by_cases hi:i<k
  .have:i<8:=by omega
   simp[hi,this]
  .have h0:LS.opn l i=false:=by unfold LS.opn;rw[h i (by omega)];rfl
   rw[h0];simp
 .have key:∀d,((List.range (k+d)).filter (LS.opn l)).length=((List.range k).filter (LS.opn l)).length:=fun d=>by
   induction d with
   |zero=>rfl
   |succ d ih=>
    have h0:LS.opn l (k+d)=false:=by unfold LS.opn;rw[h _ (by omega)];rfl
    rw[<-Nat.add_assoc,List.range_succ,List.filter_append,List.length_append,ih,List.filter_cons_of_neg (by rw[h0];decide)];rfl
  unfold LS.opens;have:=key (8-k);rw[<-e8]at this;exact this
theorem l8_far {k:Nat}{es:List En}{day:Int}(hok:∀e∈es,okE k e)(i:Nat)(hi:k<=i):l8 es day i=0:=by
 unfold l8;by_cases h:i<8
 .rw[bals_get es day h];exact balA_far hok hi
 .rw[List.getD_eq_getElem?_getD,List.getElem?_eq_none (by rw[bals_length];omega)];rfl
end Go.Proofs.YtejmkibjpaoahaaGreatDoor
end
section
namespace Go.Proofs.YtejmkibjpaoahaaGreatDoor
section
variable {l:List Int}{n:Nat}
set_option linter.unusedSimpArgs false
set_option linter.unusedVariables false
def rimEs (l:List Int)(n k:Nat):List En:=(List.range k).map fun i=>⟨1,(i:Nat),((i+1)% n:Nat),l.getD i 0+1⟩
theorem rimEs_length (l:List Int)(n k:Nat):(rimEs l n k).length=k:=by simp[rimEs]
theorem rimEs_next (l:List Int)(n k:Nat):rimEs l n (k+1)=rimEs l n k++[⟨1,(k:Nat),((k+1)% n:Nat),l.getD k 0+1⟩]:=by simp[rimEs,List.range_succ]
theorem sum_range (g:Nat->Int):∀n,((List.range n).map g).sum=LS.sm g n
 |0=>rfl
 |n+1=>by rw[List.range_succ,List.map_append,List.sum_append,sum_range g n];simp[LS.sm]
theorem rim_bal {i:Nat}(hi:i<n):balA (rimEs l n n) 1 i=bl2 (fun j=>l.getD j 0) n i:=by
 unfold balA rimEs;rw[List.map_map,sum_range];have e:∀j,j<n->((amt 1 i)∘fun j:Nat=>(⟨1,(j:Nat),((j+1)% n:Nat),l.getD j 0+1⟩:En)) j=(if j=(i+(n-1))% n then l.getD ((i+(n-1))% n) 0+1 else 0)+(if j=i then-(l.getD i 0+1)else 0):=fun j hj=>by
  have hm:(j+1)% n=i<->j=(i+(n-1))% n:=by
   by_cases h1:j+1=n
   .rw[h1,Nat.mod_self];by_cases h0:i=0
    .subst h0;rw[Nat.zero_add,Nat.mod_eq_of_lt (by omega)];omega
    .rw[show i+(n-1)=(i-1)+n by omega,Nat.add_mod_right,Nat.mod_eq_of_lt (by omega)];omega
   .rw[Nat.mod_eq_of_lt (by omega)];by_cases h0:i=0
    .subst h0;rw[Nat.zero_add,Nat.mod_eq_of_lt (by omega)];omega
    .rw[show i+(n-1)=(i-1)+n by omega,Nat.add_mod_right,Nat.mod_eq_of_lt (by omega)];omega
  simp only[Function.comp,amt];rw[if_pos (by decide)];have c1:((((j+1)% n:Nat):Int)=(i:Int))<->j=(i+(n-1))% n:=by rw[<-hm];omega
  have c2:(((j:Nat):Int)=(i:Int))<->j=i:=by omega
  by_cases h1:j=(i+(n-1))% n
  .rw[if_pos (c1.2 h1),if_pos h1,<-h1];by_cases h2:j=i
   .rw[if_pos (c2.2 h2),if_pos h2,h2];omega
   .rw[if_neg (fun h=>h2 (c2.1 h)),if_neg h2];omega
  .rw[if_neg (fun h=>h1 (c1.1 h)),if_neg h1];by_cases h2:j=i
   .rw[if_pos (c2.2 h2),if_pos h2,h2];omega
   .rw[if_neg (fun h=>h2 (c2.1 h)),if_neg h2];omega
 rw[LS.sm_congr e,LS.sm_add,LS.sm_one,LS.sm_one,if_pos (Nat.mod_lt _ (by omega)),if_pos hi];unfold bl2;rw[if_pos hi];simp only[];omega
structure RimB (l:List Int)(n:Nat):Prop where
 len:l.length=n
 b:2<=n/\n<=8
 all:∀i,i<n->0<=l.getD i 0/\l.getD i 0<=999
theorem rim_ok (R:RimB l n){k:Nat}(hk:k<=n):∀e∈rimEs l n k,okE n e/\e.f≠e.t/\e.d=1:=by
 intro e he;obtain⟨i,hi,rfl⟩:=List.mem_map.1 he;rw[List.mem_range]at hi;have hn:=R.b;have:=R.all i (by omega);have hm:(i+1)% n<n:=Nat.mod_lt _ (by omega);refine⟨by unfold okE;simp only[];omega,?_,rfl⟩;show((i:Nat):Int)≠(((i+1)% n:Nat):Int);by_cases h1:i+1=n
 .rw[h1,Nat.mod_self];omega
 .rw[Nat.mod_eq_of_lt (by omega)];omega
theorem rim_chk (R:RimB l n):chk n 0 (rimEs l n n)=0:=by
 have hn:=R.b;unfold chk;rw[if_neg (by rw[rimEs_length];omega),if_neg,if_neg]
 .rintro(h|⟨e,he,h⟩)
  .refine h fun i hi=> ?_
   have h1:=(rim_ok R (Nat.le_refl n) _ (List.getElem_mem (show i<(rimEs l n n).length by omega))).2.2;have h2:=(rim_ok R (Nat.le_refl n) _ (List.getElem_mem hi)).2.2;rw[h1,h2];exact Int.le_refl _
  .exact(rim_ok R (Nat.le_refl n) e he).2.1 h
 .rintro(h|h)
  .exact h (by decide)
  .exact h fun e he=>(rim_ok R (Nat.le_refl n) e he).1
theorem rim_opn (R:RimB l n):Go.Proofs.YtejmkibjpaoahaaGreatDoor.opn n 0 (rimEs l n n) [1]=0:=by
 unfold Go.Proofs.YtejmkibjpaoahaaGreatDoor.opn;rw[if_neg (by rw[rim_chk R];decide),if_pos (by decide)]
theorem rim_l8 (R:RimB l n):l8 (rimEs l n n) 1=bl2 (fun j=>l.getD j 0) n:=by
 funext i;have hn:=R.b;by_cases hi:i<n
 .unfold l8;rw[bals_get _ _ (by omega),rim_bal hi]
 .rw[l8_far (k:=n) (fun e he=>(rim_ok R (Nat.le_refl n) e he).1) i (by omega)];unfold bl2;rw[if_neg hi]
end
end Go.Proofs.YtejmkibjpaoahaaGreatDoor
end
section
namespace Go.Proofs.YtejmkibjpaoahaaGreatDoor
open Go Go.Proofs Go.Eng Go.Run Tab
set_option maxRecDepth 100000
set_option linter.unusedSimpArgs false
set_option linter.unusedVariables false
set_option linter.defProp false
set_option maxHeartbeats 4000000
set_option linter.defProp false
def YtejmkibjpaoahaaGreatDoorG8Fs11:=(And.intro (And.intro (And.intro @agg39 @fps39_0) (And.intro @fps39_1 @fps39_2)) (And.intro (And.intro @fps39_3 @inf39) (And.intro @okf39 (And.intro @sz39 @zero39))))
theorem app22f {h:Eng.Heap}{er:Env}{ty:TypeId}{m0:Nat}{x y:Operand}{a b:Option Addr}{len cap m c:Nat}{xs ys:List En}{K:Value->Eng.Heap->Prop}(hx:ev er x= .slice a len cap)(hy:ev er y= .slice b m c)(O:iV m0 h 39 4 a len cap (ensV xs))(h0h:m0<=h.size)(I:Row h b (ensV ys))(hm:ys.length=m)(hb:len+m<=1000)
 (H:∀a' cap' h',iV m0 h' 39 4 a' (len+m) cap' (ensV (xs++ys))->App h h' a a'->K (.slice a' (len+m) cap') h'):aI Tryz.prog (.call ⟨.builtin .append,#[x,y],#[33,33]⟩) ty er h K:=
 WZ Tryz.underlying33 Tryz.underlying33 inf39 sz39 zero39 (by rfl) hx hy O h0h I (by rw[ensV_length,hm]) (fun u hu=>by
  simp only[ensV,List.mem_flatMap,enV]at hu;obtain⟨e,_,hu⟩:=hu;simp at hu;rcases hu with rfl|rfl|rfl|rfl<;>rfl) (by omega) (by rw[by39];omega) (fun a' cap' h' O' A=>H a' cap' h' (by rw[ensV_append];exact O') A)
theorem entry48 (e:En)(h:Eng.Heap):ak Tryz.prog 11 #[.int .i64 e.d,.int .i64 e.f,.int .i64 e.t,.int .i64 e.a] h (fun v h'=>v= .agg #[.int .i64 e.d,.int .i64 e.f,.int .i64 e.t,.int .i64 e.a]/\Ext h h'):=by
 (refine Rm Tryz.func11 rfl bod11 ?_;simp only[Tryz.ntmps11,Tryz.results11,coreS,U1,splice,Value.cells,Value.oneCell',Nat.reduceAdd,Nat.reduceSub,Nat.reduceMul,Nat.reduceLeDiff,Int.reduceEq,Nat.reduceEqDiff,YtejmkibjpaoahaaGreatDoorG8Fs11])
 exact(Ext.refl h).push _
theorem turned_most {es fs:List En}{day:Int}{k s j1 j2:Nat}(hk:k<=8)(hs:s<k)(hok:∀e∈es,okE k e)(hokf:∀e∈fs,okE k e)(hv:∀i,i<k->balA fs day ((i+s)% k:Nat)=balA es day (i:Int))
 (h1:LS.Most (LS.zero (l8 es day) 8) (LS.msk (LS.opn (l8 es day)) 8) j1) (h2:LS.Most (LS.zero (l8 fs day) 8) (LS.msk (LS.opn (l8 fs day)) 8) j2):j1=j2/\LS.opens (l8 es day) 8=LS.opens (l8 fs day) 8:=by
 obtain⟨a1,a2,a3⟩:=cut8 hk (l8_far (day:=day) hok);obtain⟨b1,b2,b3⟩:=cut8 hk (l8_far (day:=day) hokf);rw[a1,a2]at h1;rw[b1,b2]at h2;have:=turned_law (s:=s) hs (fun i hi=> ?_) h1 h2
 .rw[a3,b3];exact this
 .have hm:(i+s)% k<k:=Nat.mod_lt _ (by omega);unfold l8;rw[bals_get fs day (by omega),bals_get es day (by omega),hv i hi]
end Go.Proofs.YtejmkibjpaoahaaGreatDoor
end
section
namespace Go.Proofs.YtejmkibjpaoahaaGreatDoor
open Go Go.Proofs Go.Eng Go.Run Tab
set_option maxRecDepth 100000
set_option linter.unusedSimpArgs false
set_option linter.unusedVariables false
set_option linter.defProp false
set_option maxHeartbeats 2000000
set_option linter.defProp false
def YtejmkibjpaoahaaGreatDoorLW1Fs25:=(And.intro (And.intro @agg3 @by3) (And.intro @inf3 (And.intro @sz3 @Tryz.underlying29)))
def YtejmkibjpaoahaaGreatDoorLW1Fs28:=(And.intro (And.intro (And.intro (And.intro @agg3 @agg33) (And.intro @agg35 (And.intro @by3 @by39))) (And.intro (And.intro @fo35_2 @fps35_0) (And.intro @inf3 (And.intro @inf33 @inf35)))) (And.intro (And.intro (And.intro @inf39 @okf35) (And.intro @sz3 (And.intro @sz33 @sz35))) (And.intro (And.intro @sz39 @zero35) (And.intro @zero39 (And.intro @Tryz.underlying29 @Tryz.underlying33)))))
theorem kinds73 (k:Int)(h:Eng.Heap):ak Tryz.prog 73 #[.int .i64 k] h (fun v h'=>(∃r:Int,v= .int .i64 r/\(r=0<->1<=k/\k<=4))/\h'=h):=by
 (refine Rm Tryz.func73 rfl bod73 ?_;simp only[Tryz.ntmps73,Tryz.results73,coreS,U1,splice,Value.cells,Value.oneCell',Nat.reduceAdd,Nat.reduceSub,Nat.reduceMul,Nat.reduceLeDiff,Int.reduceEq,Nat.reduceEqDiff])
 refine⟨fun hc=> ?_,fun hc=>⟨fun hc2=> ?_,fun hc2=> ?_⟩⟩
 .exact⟨2,rfl,by omega⟩
 .exact⟨2,rfl,by omega⟩
 .exact⟨0,rfl,by omega⟩
theorem rim25 (k:Int)(a:Option Addr)(n c:Nat)(xs:List Int)(h:Eng.Heap)(hs:eu h a n xs)(hl:n<=1000):
 ak Tryz.prog 25 #[.int .i64 k,.slice a n c] h (fun v h'=>(∃r:Int,v= .int .i64 r/\(r=0<->Rim k xs))/\h'=h):=by
 have hn:=hs.len
 (refine Rm Tryz.func25 rfl bod25 ?_;simp only[Tryz.ntmps25,Tryz.results25,coreS,U1,splice,Value.cells,Value.oneCell',Nat.reduceAdd,Nat.reduceSub,Nat.reduceMul,Nat.reduceLeDiff,Int.reduceEq,Nat.reduceEqDiff,YtejmkibjpaoahaaGreatDoorLW1Fs25])
 refine ak.mono (kinds73 k h) ?_;rintro v h1 ⟨⟨r,rfl,hr⟩,rfl⟩;by_cases hk:1<=k/\k<=4
 case neg=>
  have:¬r=0:=fun e=>hk (hr.1 e)
  simp only[this,decide_false,Bool.not_false,coreS,Value.cells,Value.oneCell',Nat.reduceAdd,Nat.reduceSub,Nat.reduceMul,Nat.reduceLeDiff,Int.reduceEq,Nat.reduceEqDiff,YtejmkibjpaoahaaGreatDoorLW1Fs25];exact⟨2,rfl,by constructor;omega;exact fun R=>absurd R.kinds hk⟩
 rw[hr.2 hk];simp only[decide_true,Bool.not_true,coreS,Value.cells,Value.oneCell',Nat.reduceAdd,Nat.reduceSub,Nat.reduceMul,Nat.reduceLeDiff,Int.reduceEq,Nat.reduceEqDiff,YtejmkibjpaoahaaGreatDoorLW1Fs25];have hrim:∀r:Int,r≠0->¬Rim k xs->(∃q:Int,Value.int .i64 r= .int .i64 q/\(q=0<->Rim k xs)):=fun r h1 h2=>⟨r,rfl,fun e=>absurd e h1,fun e=>absurd e h2⟩
 refine⟨fun hc=> ?_,fun hc=>⟨fun hc2=> ?_,fun hc2=> ?_⟩⟩
 .exact hrim 6 (by decide) fun R=>by have:=R.len;omega
 .exact hrim 6 (by decide) fun R=>by have:=R.len;omega
 refine zAi [4,5,17,18,19,20,21,22,23,24,25,26,27,28,29,30,31,32,33,34,35] (fun g h'=>h'=h1/\∃i:Nat,i<=n/\g 5= .int .i64 i/\∀j<i,0<=xs.getD j 0/\xs.getD j 0<k) (fun g _=>match g 5 with| .int _ m=>n-m.toNat|_=>0) ⟨rfl,0,by omega,rfl,fun j hj=>by omega⟩ ?_;rintro g h' ⟨rfl,i,hi,hg,hno⟩;simp only[hg,coreS,Value.cells,Value.oneCell',Nat.reduceAdd,Nat.reduceSub,Nat.reduceMul,Nat.reduceLeDiff,Int.reduceEq,Nat.reduceEqDiff,YtejmkibjpaoahaaGreatDoorLW1Fs25];refine⟨fun hlt=> ?_,fun hge=> ?_⟩
 .have hil:i<xs.length:=by omega
  simp only[hs.cell hil,coreS,Value.cells,Value.oneCell',Nat.reduceAdd,Nat.reduceSub,Nat.reduceMul,Nat.reduceLeDiff,Int.reduceEq,Nat.reduceEqDiff,YtejmkibjpaoahaaGreatDoorLW1Fs25];have sa:=hs.isSome (by omega);have hbad:∀R:Rim k xs,0<=xs.getD i 0/\xs.getD i 0<=k-1:=fun R=>R.get hil
  refine⟨by omega,sa,fun h0=>hrim 3 (by decide) fun R=> ?_,fun h0=>⟨by omega,sa,fun h2=>hrim 3 (by decide) fun R=> ?_,fun h2=>⟨by rw[zBS];omega,Zr (by kernel_rfl) ⟨rfl,i+1,by omega,rfl,fun j hj=> ?_⟩ ?_⟩⟩⟩
  .have:=hbad R;omega
  .have:=hbad R;omega
  .by_cases hji:j=i
   .subst hji;omega
   .exact hno j (by omega)
  .show n-((i:Int)+1).toNat<n-(i:Int).toNat;omega
 .refine⟨0,rfl,fun _=>⟨hk,by omega,fun x hx=> ?_⟩,fun _=>rfl⟩;obtain⟨j,hj,rfl⟩:=List.getElem_of_mem hx;have:=hno j (by omega);simp only[List.getD,List.getElem?_eq_getElem hj,Option.getD_some]at this;omega
theorem paid28 (a:Option Addr)(n c:Nat)(xs:List Int)(h:Eng.Heap)(hs:eu h a n xs)(R:RimB xs n):
 ak Tryz.prog 28 #[.slice a n c] h (fun v h'=>(∃b d,v= .agg #[.int .i64 n,.int .i64 0,.slice b n d]/\Row h' b (ensV (rimEs xs n n)))/\Ext h h'):=by
 have hn:=hs.len;have hb:=R.b
 (refine Rm Tryz.func28 rfl bod28 ?_;simp only[Tryz.ntmps28,Tryz.results28,coreS,U1,splice,Value.cells,Value.oneCell',Nat.reduceAdd,Nat.reduceSub,Nat.reduceMul,Nat.reduceLeDiff,Int.reduceEq,Nat.reduceEqDiff,YtejmkibjpaoahaaGreatDoorLW1Fs28])
 have u2:=Fa (h:=h.push (.cells #[.int .i64 0,.int .i64 0,.slice none 0 0] 35)) (o:= .cells #[.int .i64 0,.int .i64 0,.slice none 0 0] 35) (c:=[.int .i64 n,.int .i64 0,.slice none 0 0]) (ct:=35);rw[Rh]at u2;rw[u2];have g3:=jD (h:=h.push (.cells #[.int .i64 0,.int .i64 0,.slice none 0 0] 35)) (o:= .cells [.int .i64 n,.int .i64 0,.slice none 0 0].toArray 35);rw[Rh]at g3;have g2:=Jy (o:= .cells [.int .i64 n,.int .i64 0,.slice none 0 0].toArray 35) (jD (h:=h) (o:= .cells #[.int .i64 0,.int .i64 0,.slice none 0 0] 35));have x2:=((Ext.refl h).push (.cells #[.int .i64 0,.int .i64 0,.slice none 0 0] 35)).push (.cells [.int .i64 n,.int .i64 0,.slice none 0 0].toArray 35);have s2:((h.push (.cells #[.int .i64 0,.int .i64 0,.slice none 0 0] 35)).push (.cells [.int .i64 n,.int .i64 0,.slice none 0 0].toArray 35)).size=h.size+2:=by simp
 generalize (h.push (.cells #[.int .i64 0,.int .i64 0,.slice none 0 0] 35)).push (.cells [.int .i64 n,.int .i64 0,.slice none 0 0].toArray 35)=h2 at g2 g3 x2 s2 ⊢;refine zAi [4,8,9,10,11,12,13,14,15,16,17,18,19,20,21,22,23,24,25,26,27,28,29,30] (fun e h'=>Ext h h'/\h.size+2<=h'.size/\∃i:Nat,i<=n/\e 4= .int .i64 i/\h'[h.size]? =some (.cells #[.int .i64 0,.int .i64 0,.slice none 0 0] 35)/\∃aX cX,h'[h.size+1]? =some (.cells #[.int .i64 n,.int .i64 0,.slice aX i cX] 35)/\iV (h.size+2) h' 39 4 aX i cX (ensV (rimEs xs n i))) (fun e _=>match e 4 with| .int _ q=>n-q.toNat|_=>0) ⟨x2,by omega,0,by omega,rfl,g2,none,0,g3,iV.nil _ _ _ _⟩ ?_;rintro e3 h3 ⟨x3,s3,i,hi,he3,k2,aX,cX,k3,OX⟩;simp only[he3,coreS,Value.cells,Value.oneCell',Nat.reduceAdd,Nat.reduceSub,Nat.reduceMul,Nat.reduceLeDiff,Int.reduceEq,Nat.reduceEqDiff,YtejmkibjpaoahaaGreatDoorLW1Fs28];refine⟨fun hlt=> ?_,fun hge=> ?_⟩
 .have hin:i<n:=by omega
  have hc3:=(hs.ext x3).cell (j:=i) (by omega);have sa:=hs.isSome (by omega);have emod:((i:Int)+1).tmod (n:Int)=(((i+1)% n:Nat):Int):=by
   rw[Int.tmod_eq_emod_of_nonneg (by omega)];push_cast;rfl
  have hv:=R.all i hin;refine zB7 (by kernel_rfl) zBc (.quiet 0 (.quiet 1 (.quiet 2 (.quiet 3 (.quiet 4 (.quiet 5 (.quiet 6 (.quiet 7 (.quiet 8 (.quiet 9 (.quiet 10 (.quiet 11 (.quiet 12 (.keep 13 (.keep 14 (.one 15 (.quiet 16 (.one 17 (.fin))))))))))))))))))) (by kernel_rfl) rfl (by kernel_rfl) ?_;simp only[k3,hc3,he3,emod,coreS,Value.cells,Value.oneCell',Nat.reduceAdd,Nat.reduceSub,Nat.reduceMul,Nat.reduceLeDiff,Int.reduceEq,Nat.reduceEqDiff,drawS,treeS,YtejmkibjpaoahaaGreatDoorLW1Fs28];refine⟨by rw[zBS];omega,by omega,by omega,sa,by rw[zBS];omega,?_⟩;refine YD fun h5 x5=> ?_
  simp only[coreS,Value.cells,Value.oneCell',Nat.reduceAdd,Nat.reduceSub,Nat.reduceMul,Nat.reduceLeDiff,Int.reduceEq,Nat.reduceEqDiff,drawS,treeS,YtejmkibjpaoahaaGreatDoorLW1Fs28];obtain⟨en,hen⟩:∃en:En,en=⟨1,(i:Nat),((i+1)% n:Nat),xs.getD i 0+1⟩:=⟨_,rfl⟩;have he1:=entry48 en h5;rw[hen]at he1;refine ak.mono he1 ?_;rintro v h6 ⟨rfl,x6⟩;refine⟨x6,?_⟩
  try simp only[coreS,Value.cells,Value.oneCell',Nat.reduceAdd,Nat.reduceSub,Nat.reduceMul,Nat.reduceLeDiff,Int.reduceEq,Nat.reduceEqDiff,drawS,treeS,YtejmkibjpaoahaaGreatDoorLW1Fs28]
  refine YD fun h7 x7=> ?_
  simp only[splice,List.take,List.drop,List.nil_append,List.append_nil,List.length_cons,List.length_nil,coreS,Value.cells,Value.oneCell',Nat.reduceAdd,Nat.reduceSub,Nat.reduceMul,Nat.reduceLeDiff,Int.reduceEq,Nat.reduceEqDiff,drawS,treeS,YtejmkibjpaoahaaGreatDoorLW1Fs28];refine⟨by decide,(Ext.refl h7).push _,?_⟩;refine Zk fun h8 x8=> ?_
  have x38:Ext h3 h8:=((x5.trans x6).trans x7).trans x8.zBe;have OX8:=OX.ext x38;have q8:=x8.get jD;have s8:=x38.size;have k38:=x38.get k3;have k28:=x38.get k2;simp only[coreS,Value.cells,Value.oneCell',Nat.reduceAdd,Nat.reduceSub,Nat.reduceMul,Nat.reduceLeDiff,Int.reduceEq,Nat.reduceEqDiff,drawS,treeS,YtejmkibjpaoahaaGreatDoorLW1Fs28];refine app22f (m0:=h.size+2) (len:=i) (m:=1) (xs:=rimEs xs n i) (ys:=[en]) rfl rfl OX8 (by omega) (Row.block (c:=ensV [en]) (by rw[hen];exact q8)) rfl (by omega) fun a' cap' h9 O9 A9=> ?_
  try simp only[coreS,Value.cells,Value.oneCell',Nat.reduceAdd,Nat.reduceSub,Nat.reduceMul,Nat.reduceLeDiff,Int.reduceEq,Nat.reduceEqDiff,drawS,treeS,YtejmkibjpaoahaaGreatDoorLW1Fs28]
  refine Zk fun h10 x10=> ?_
  have k310:=x10.get (A9.updV OX8 k38 (by omega));have k210:=x10.get (A9.updV OX8 k28 (by omega));simp only[k310,coreS,Value.cells,Value.oneCell',Nat.reduceAdd,Nat.reduceSub,Nat.reduceMul,Nat.reduceLeDiff,Int.reduceEq,Nat.reduceEqDiff,drawS,treeS,YtejmkibjpaoahaaGreatDoorLW1Fs28];refine Oy k310 (by simp) fun h11 g11 u11=> ?_
  simp only[splice,List.take,List.drop,List.nil_append,List.cons_append,List.append_nil,List.length_cons,List.length_nil]at g11;refine zAN fun h12 x12=> ?_
  simp only[he3,coreS,Value.cells,Value.oneCell',Nat.reduceAdd,Nat.reduceSub,Nat.reduceMul,Nat.reduceLeDiff,Int.reduceEq,Nat.reduceEqDiff,YtejmkibjpaoahaaGreatDoorLW1Fs28];have O12:=((O9.ext x10).upd u11 (by omega)).ext x12;have xF:Ext h h12:=(u11.ext ((A9.extV OX8 (x3.trans x38) (by omega)).trans x10) (by omega)).trans x12;have meas:n-((i:Int)+1).toNat<n-(i:Int).toNat:=by omega
  have sz:h.size+2<=h12.size:=by
   have q1:=A9.size;have q2:=x10.size;have q3:=u11.size;have q4:=x12.size;omega
  refine⟨by rw[zBS];omega,Zr (by kernel_rfl) ⟨xF,sz,i+1,by omega,rfl,x12.get (u11.get k210 (by omega)),a',cap',x12.get g11,by rw[rimEs_next,<-hen];exact O12⟩ meas⟩
 .obtain rfl:n=i:=by omega
  simp only[k3,coreS,Value.cells,Value.oneCell',Nat.reduceAdd,Nat.reduceSub,Nat.reduceMul,Nat.reduceLeDiff,Int.reduceEq,Nat.reduceEqDiff,YtejmkibjpaoahaaGreatDoorLW1Fs28];simp only[k2,coreS,Value.cells,Value.oneCell',Nat.reduceAdd,Nat.reduceSub,Nat.reduceMul,Nat.reduceLeDiff,Int.reduceEq,Nat.reduceEqDiff,YtejmkibjpaoahaaGreatDoorLW1Fs28];refine Oy k2 (by simp) fun h4 g4 u4=> ?_
  simp only[splice,List.take,List.drop,List.nil_append,List.cons_append,List.append_nil,List.length_cons,List.length_nil]at g4;simp only[g4,coreS,Value.cells,Value.oneCell',Nat.reduceAdd,Nat.reduceSub,Nat.reduceMul,Nat.reduceLeDiff,Int.reduceEq,Nat.reduceEqDiff,YtejmkibjpaoahaaGreatDoorLW1Fs28];exact⟨⟨aX,cX,rfl,(OX.upd u4 (by omega)).row⟩,u4.ext x3 (by omega)⟩
end Go.Proofs.YtejmkibjpaoahaaGreatDoor
end
section
namespace Go.Proofs.YtejmkibjpaoahaaGreatDoor
open Go Go.Proofs Go.Eng Go.Run Tab
set_option maxRecDepth 100000
set_option linter.unusedSimpArgs false
set_option linter.unusedVariables false
set_option linter.defProp false
set_option maxHeartbeats 4000000
set_option linter.defProp false
def YtejmkibjpaoahaaGreatDoorG9Fs29:=(And.intro (And.intro (And.intro @agg35 @by3) (And.intro @inf3 @inf35)) (And.intro (And.intro @sz3 @sz35) (And.intro @zero3 @Tryz.underlying29)))
theorem groups61 (k:Nat)(cl:Int)(a:Option Addr)(n c:Nat)(es:List En)(day:Int)(h:Eng.Heap)(hr:Row h a (ensV es))(hn:n=es.length)(hl:n<=1000000)(e0:opn k cl es [day]=0):
 ak Tryz.prog 29 #[.agg #[.int .i64 k,.int .i64 cl,.slice a n c],.int .i64 day] h (fun v h'=>(∃w,v= .tuple #[w,.int .i64 0]/\∃h0,Ext h h0/\GrpP k (l8 es day) h0 w h')/\Ext h h'):=by
 (refine Rm Tryz.func29 rfl bod29 ?_;simp only[Tryz.ntmps29,Tryz.results29,coreS,U1,splice,Value.cells,Value.oneCell',Nat.reduceAdd,Nat.reduceSub,Nat.reduceMul,Nat.reduceLeDiff,Int.reduceEq,Nat.reduceEqDiff,YtejmkibjpaoahaaGreatDoorG9Fs29])
 refine ak.mono (open72 k cl a n c es _ 1 1 [day] _ ((hr.push _).push _) hn hl (intsV_one pn1) (by omega)) ?_;rintro v h1 ⟨x1,H⟩;have y1:=x1.zBe.zBe;rcases H with⟨_,g,rfl,hg,hsz⟩|⟨h0,_⟩
 case inr=>exact absurd e0 h0
 obtain⟨hc,hd⟩:=opn_ok e0;obtain⟨ha,hl2,hcl,hok,hso,hft⟩:=chk_ok hc;simp only[coreS,Value.cells,Value.oneCell',Nat.reduceAdd,Nat.reduceSub,Nat.reduceMul,Nat.reduceLeDiff,Int.reduceEq,Nat.reduceEqDiff,YtejmkibjpaoahaaGreatDoorG9Fs29];refine ak.mono (groups98 g k cl a n c es day h1 hg (hr.ext y1) hn (by omega) hok (by omega) hft) ?_;rintro v h4 G;have x4:=G.2;simp only[coreS,Value.cells,Value.oneCell',Nat.reduceAdd,Nat.reduceSub,Nat.reduceMul,Nat.reduceLeDiff,Int.reduceEq,Nat.reduceEqDiff,YtejmkibjpaoahaaGreatDoorG9Fs29];exact⟨⟨_,rfl,h1,y1,G⟩,y1.trans x4⟩
end Go.Proofs.YtejmkibjpaoahaaGreatDoor
end
section
namespace Go.Proofs.YtejmkibjpaoahaaGreatDoor
open Go Go.Proofs Go.Eng Go.Run Tab RL
set_option maxRecDepth 100000
set_option linter.unusedSimpArgs false
set_option linter.unusedVariables false
set_option linter.defProp false
set_option maxHeartbeats 4000000
set_option linter.defProp false
def YtejmkibjpaoahaaGreatDoorLW2Fs5:=(And.intro (And.intro (And.intro @agg2 (And.intro @agg35 @by2)) (And.intro @inf2 (And.intro @inf35 @sz2))) (And.intro (And.intro @sz35 (And.intro @zero35 @Tryz.underlying3)) (And.intro (And.intro @Tryz.underlying5 @Tryz.underlying29) (And.intro @Tryz.underlying48 @Tryz.underlying71))))
theorem Most_uniq {z:Nat->Prop}{s j k:Nat}(h:LS.Most z s j)(h':LS.Most z s k):j=k:=by
 have h1:j<=k:=by rcases h.is with h|h;omega;exact h'.le j h
 have h2:k<=j:=by rcases h'.is with h1|h1;omega;exact h.le k h1
 omega
theorem opens_zero {L:Nat->Int}{n:Nat}:LS.opens L n=0<->∀i,i<n->L i=0:=by
 unfold LS.opens LS.opn;rw[List.length_eq_zero_iff,List.filter_eq_nil_iff];constructor
 .intro h i hi;have:=h i (List.mem_range.2 hi);simpa using this
 .intro h i hi;have:=h i (List.mem_range.1 hi);simp[this]
theorem opens_next (L:Nat->Int)(i:Nat):LS.opens L (i+1)=LS.opens L i+if L i=0 then 0 else 1:=by
 unfold LS.opens LS.opn;rw[List.range_succ,List.filter_append,List.length_append];by_cases h:L i=0<;>simp[h]
theorem rim_plain {xs ys:List Int}{n s p q j1 j2 ng:Nat}(B1:RimB xs n)(B2:RimB ys n)(hys:ys=rotL xs s)(hsn:s<n)(C:Cyc (fun j=>xs.getD j 0) n p q)(P:PerQ xs n p)
 (M1:LS.Most (LS.zero (l8 (rimEs xs n n) 1) 8) (LS.msk (LS.opn (l8 (rimEs xs n n) 1)) 8) j1) (M2:LS.Most (LS.zero (l8 (rimEs ys n n) 1) 8) (LS.msk (LS.opn (l8 (rimEs ys n n) 1)) 8) j2)
 (M3:LS.Most (LS.zero (l8 (rimEs xs n n) 1) 8) (LS.msk (LS.opn (l8 (rimEs xs n n) 1)) 8) ng):
 j1=ng/\j2=ng/\LS.opens (l8 (rimEs ys n n) 1) 8=LS.opens (l8 (rimEs xs n n) 1) 8/\(LS.opens (l8 (rimEs xs n n) 1) n=0<->p=1)/\(LS.opens (l8 (rimEs xs n n) 1) n≠0->q<=ng)/\LS.opens (l8 (rimEs xs n n) 1) 8=LS.opens (l8 (rimEs xs n n) 1) n:=by
 have hn:=B1.b;have e13:=Most_uniq M1 M3;obtain⟨e21,eo⟩:=turned_most (es:=rimEs ys n n) (fs:=rimEs xs n n) (day:=1) (k:=n) (s:=s) (by omega) hsn (fun e he=>(rim_ok B2 (Nat.le_refl n) e he).1) (fun e he=>(rim_ok B1 (Nat.le_refl n) e he).1) (fun i hi=>by
  rw[rim_bal (Nat.mod_lt _ (by omega)),rim_bal hi];refine(bl2_turn (L:=fun j=>xs.getD j 0) (M:=fun j=>ys.getD j 0) (by omega) (fun i hi=> ?_) i hi).symm;have:=B1.len;show ys.getD i 0=xs.getD ((i+s)% n) 0;rw[hys,rotL_get _ _ _ (by omega) (by omega),B1.len]) M2 M1
 obtain⟨a1,a2,a3⟩:=cut8 (k:=n) (by omega) (l8_far (day:=1) fun e he=>(rim_ok B1 (Nat.le_refl n) e he).1);have hz:LS.opens (l8 (rimEs xs n n) 1) n=0<->∀i,i<n->bl2 (fun j=>xs.getD j 0) n i=0:=by rw[rim_l8 B1];exact opens_zero
 refine⟨e13,by omega,eo,by rw[hz];exact(P.one B1.len).symm,fun hne=> ?_,a3⟩;refine M3.le q ?_;rw[rim_l8 B1];refine C.groups (by omega) ?_;rw[Ne,hz]at hne;exact Classical.byContradiction fun h=>hne fun i hi=>Classical.byContradiction fun h2=>h ⟨i,hi,h2⟩
theorem rimmed5 (wk:∀h,ak Tryz.prog 7 #[] h (fun v h'=>v= .bool true/\Ext h h'))(k:Int)(a:Option Addr)(n c:Nat)(xs:List Int)(m:Int)(h:Eng.Heap)(hs:eu h a n xs)(hc:n<=c)(hm:0<=m/\m<=255):
 ak Tryz.prog 5 #[.int .i64 k,.slice a n c,.int .u8 m] h (fun v h'=>v= .bool true/\Ext h h'):=by
 have works:∀(h':Eng.Heap) (K:Value->Eng.Heap->Prop),Ext h h'->(∀h'',Ext h h''->K (.bool true) h'')->ak Tryz.prog 7 #[] h' K:=fun h' K x H=>ak.mono (wk h') fun v h'' q=>by
  obtain⟨rfl,x2⟩:=q;exact H _ (x.trans x2)
 have hn:=hs.len
 (refine Rm Tryz.func5 rfl bod5 ?_;simp only[Tryz.ntmps5,Tryz.results5,coreS,U1,splice,Value.cells,Value.oneCell',Nat.reduceAdd,Nat.reduceSub,Nat.reduceMul,Nat.reduceLeDiff,Int.reduceEq,Nat.reduceEqDiff,YtejmkibjpaoahaaGreatDoorLW2Fs5])
 refine⟨fun w1=> ?_,fun w1=>⟨fun w2=> ?_,fun w2=> ?_⟩⟩
 .refine works _ _ (Ext.refl h) fun h'' x=> ?_
  simp only[coreS,Value.cells,Value.oneCell',Nat.reduceAdd,Nat.reduceSub,Nat.reduceMul,Nat.reduceLeDiff,Int.reduceEq,Nat.reduceEqDiff,YtejmkibjpaoahaaGreatDoorLW2Fs5];exact x
 .refine works _ _ (Ext.refl h) fun h'' x=> ?_
  simp only[coreS,Value.cells,Value.oneCell',Nat.reduceAdd,Nat.reduceSub,Nat.reduceMul,Nat.reduceLeDiff,Int.reduceEq,Nat.reduceEqDiff,YtejmkibjpaoahaaGreatDoorLW2Fs5];exact x
 refine ak.mono (rim25 k a n c xs h hs (by omega)) ?_;rintro v h1 ⟨⟨r,rfl,hr⟩,rfl⟩;by_cases R:Rim k xs
 case neg=>
  have:¬r=0:=fun e=>R (hr.1 e)
  simp only[this,decide_false,Bool.not_false,coreS,Value.cells,Value.oneCell',Nat.reduceAdd,Nat.reduceSub,Nat.reduceMul,Nat.reduceLeDiff,Int.reduceEq,Nat.reduceEqDiff,YtejmkibjpaoahaaGreatDoorLW2Fs5];refine works _ _ (Ext.refl _) fun h'' x=> ?_
  simp only[coreS,Value.cells,Value.oneCell',Nat.reduceAdd,Nat.reduceSub,Nat.reduceMul,Nat.reduceLeDiff,Int.reduceEq,Nat.reduceEqDiff,YtejmkibjpaoahaaGreatDoorLW2Fs5];exact x
 rw[hr.2 R];obtain⟨s,hs1⟩:∃s:Nat,m.tmod (n:Int)=(s:Int):=⟨(m % (n:Int)).toNat,by rw[Int.tmod_eq_emod_of_nonneg hm.1];have:=Int.emod_nonneg m (show(n:Int)≠0 by omega);omega⟩;have hsn:s<n:=by
  rw[Int.tmod_eq_emod_of_nonneg hm.1]at hs1;have:=Int.emod_lt_of_pos m (show(0:Int)<(n:Int) by omega);omega
 simp only[hs1,decide_true,Bool.not_true,coreS,Value.cells,Value.oneCell',Nat.reduceAdd,Nat.reduceSub,Nat.reduceMul,Nat.reduceLeDiff,Int.reduceEq,Nat.reduceEqDiff,YtejmkibjpaoahaaGreatDoorLW2Fs5];refine⟨by rw[zBS];omega,by omega,?_⟩;refine ak.mono (turn8 k a n c s xs h1 hs hc R hsn) ?_;rintro v h3 ⟨x3,a2,c2,rfl,hc2,I2⟩;simp only[coreS,Value.cells,Value.oneCell',Nat.reduceAdd,Nat.reduceSub,Nat.reduceMul,Nat.reduceLeDiff,Int.reduceEq,Nat.reduceEqDiff,YtejmkibjpaoahaaGreatDoorLW2Fs5];refine ak.mono (period322 k a n c xs h3 (hs.ext x3) hc R) ?_;rintro v h4 ⟨⟨p,rfl,P⟩,x4⟩;obtain⟨q,C,hpn,hp1⟩:=id P;have hp0:=C.p0;have hpr:(n:Int).tmod (p:Int)=0:=by
  rw[Int.tmod_eq_emod_of_nonneg (by omega)];have:n % p=0:=by rw[C.d];exact Nat.mul_mod_left q p
  exact_mod_cast this
 have hdq:(n:Int).tdiv (p:Int)=(q:Int):=by
  rw[Int.tdiv_eq_ediv_of_nonneg (by omega)];have:n/p=q:=by rw[C.d];exact Nat.mul_div_cancel q hp0
  exact_mod_cast this
 have t1:¬(p:Int)<1:=by omega
 have t2:¬(n:Int)<(p:Int):=by omega
 have R2:Rim k (rotL xs s):=by
  refine⟨R.kinds,by rw[rotL_length _ _ (by omega)];exact R.len,fun x hx=>R.all x ?_⟩;unfold rotL at hx;rcases List.mem_append.1 hx with h|h
  .exact List.mem_of_mem_drop h
  .exact List.mem_of_mem_take h
 simp only[hpr,t1,t2,decide_true,decide_false,Bool.not_true,coreS,Value.cells,Value.oneCell',Nat.reduceAdd,Nat.reduceSub,Nat.reduceMul,Nat.reduceLeDiff,Int.reduceEq,Nat.reduceEqDiff,YtejmkibjpaoahaaGreatDoorLW2Fs5];refine⟨by omega,?_⟩;refine ak.mono (rim25 k a2 n c2 _ h4 (I2.ext x4) (by omega)) ?_;rintro v h5 ⟨⟨r,rfl,hr⟩,rfl⟩;rw[hr.2 R2];simp only[decide_true,decide_false,Bool.not_true,coreS,Value.cells,Value.oneCell',Nat.reduceAdd,Nat.reduceSub,Nat.reduceMul,Nat.reduceLeDiff,Int.reduceEq,Nat.reduceEqDiff,YtejmkibjpaoahaaGreatDoorLW2Fs5];obtain⟨ys,hys⟩:∃ys,ys=rotL xs s:=⟨_,rfl⟩;have hyl:ys.length=n:=by rw[hys,rotL_length _ _ (by omega),hn]
 rw[<-hys]at I2 R2;have RB:∀zs:List Int,zs.length=n->Rim k zs->RimB zs n:=fun zs hl R=>⟨hl,by omega,fun i hi=>by
  have:=R.get (i:=i) (by omega);have:=R.kinds;omega⟩
 have B1:=RB xs hn.symm R;have B2:=RB ys hyl R2;refine ak.mono (paid28 a n c xs h5 (hs.ext (x3.trans x4)) B1) ?_;rintro v h6 ⟨⟨b6,d6,rfl,R6⟩,x6⟩;simp only[coreS,Value.cells,Value.oneCell',Nat.reduceAdd,Nat.reduceSub,Nat.reduceMul,Nat.reduceLeDiff,Int.reduceEq,Nat.reduceEqDiff,YtejmkibjpaoahaaGreatDoorLW2Fs5];refine ak.mono (paid28 a2 n c2 ys h6 ((I2.ext x4).ext x6) B2) ?_;rintro v h7 ⟨⟨b7,d7,rfl,R7⟩,x7⟩
 replace R6:=R6.ext x7
 have y7:Ext h1 h7:=((x3.trans x4).trans x6).trans x7;clear hr r;simp only[coreS,Value.cells,Value.oneCell',Nat.reduceAdd,Nat.reduceSub,Nat.reduceMul,Nat.reduceLeDiff,Int.reduceEq,Nat.reduceEqDiff,YtejmkibjpaoahaaGreatDoorLW2Fs5];have P1:=Jy (o:= .cells #[.int .i64 0,.int .i64 0,.slice none 0 0] 35) (jD (h:=h7) (o:= .cells #[.int .i64 0,.int .i64 0,.slice none 0 0] 35));have P2:=jD (h:=h7.push (.cells #[.int .i64 0,.int .i64 0,.slice none 0 0] 35)) (o:= .cells #[.int .i64 0,.int .i64 0,.slice none 0 0] 35);rw[Rh]at P2;have x8:=((Ext.refl h7).push (.cells #[.int .i64 0,.int .i64 0,.slice none 0 0] 35)).push (.cells #[.int .i64 0,.int .i64 0,.slice none 0 0] 35);generalize (h7.push (.cells #[.int .i64 0,.int .i64 0,.slice none 0 0] 35)).push (.cells #[.int .i64 0,.int .i64 0,.slice none 0 0] 35)=h8 at P1 P2 x8 ⊢;refine Oy P1 (by simp) fun h9 g9 u9=> ?_
 simp only[splice,List.take,List.drop,List.nil_append,List.cons_append,List.append_nil,List.length_cons,List.length_nil]at g9;have k9:=u9.get P2 (by omega);simp only[k9,coreS,Value.cells,Value.oneCell',Nat.reduceAdd,Nat.reduceSub,Nat.reduceMul,Nat.reduceLeDiff,Int.reduceEq,Nat.reduceEqDiff,YtejmkibjpaoahaaGreatDoorLW2Fs5];refine Oy k9 (by simp) fun h10 g10 u10=> ?_
 simp only[splice,List.take,List.drop,List.nil_append,List.cons_append,List.append_nil,List.length_cons,List.length_nil]at g10;have k10:=u10.get g9 (by omega);have x10:Ext h7 h10:=u10.ext (u9.ext x8 (Nat.le_refl _)) (by omega);simp only[k10,coreS,Value.cells,Value.oneCell',Nat.reduceAdd,Nat.reduceSub,Nat.reduceMul,Nat.reduceLeDiff,Int.reduceEq,Nat.reduceEqDiff,YtejmkibjpaoahaaGreatDoorLW2Fs5];have l1:=rimEs_length xs n n;have l2:=rimEs_length ys n n
 replace R6:=R6.ext x10
 replace R7:=R7.ext x10
 refine ak.mono (fewest49 n 0 b6 n d6 (rimEs xs n n) 1 h10 R6 l1.symm (by omega)) ?_;rintro v h11 ⟨H11,x11⟩;rcases H11 with⟨_,j1,M1,hj1,rfl⟩|⟨h0,_⟩
 case inr=>exact absurd (rim_opn B1) h0
 simp only[x11.get g10,coreS,Value.cells,Value.oneCell',Nat.reduceAdd,Nat.reduceSub,Nat.reduceMul,Nat.reduceLeDiff,Int.reduceEq,Nat.reduceEqDiff,YtejmkibjpaoahaaGreatDoorLW2Fs5];refine ak.mono (fewest49 n 0 b7 n d7 (rimEs ys n n) 1 h11 (R7.ext x11) l2.symm (by omega)) ?_;rintro v h12 ⟨H12,x12⟩;rcases H12 with⟨_,j2,M2,hj2,rfl⟩|⟨h0,_⟩
 case inr=>exact absurd (rim_opn B2) h0
 have z12:=x11.trans x12;simp only[z12.get k10,coreS,Value.cells,Value.oneCell',Nat.reduceAdd,Nat.reduceSub,Nat.reduceMul,Nat.reduceLeDiff,Int.reduceEq,Nat.reduceEqDiff,YtejmkibjpaoahaaGreatDoorLW2Fs5];refine ak.mono (balances28 n 0 b6 n d6 (rimEs xs n n) 1 h12 (R6.ext z12) l1.symm (by omega)) ?_;rintro v h13 ⟨⟨b4,m4,c4,rfl,I4,hm4⟩,x13⟩;rw[rim_opn B1];have z13:=z12.trans x13;simp only[z13.get k10,coreS,Value.cells,Value.oneCell',Nat.reduceAdd,Nat.reduceSub,Nat.reduceMul,Nat.reduceLeDiff,Int.reduceEq,Nat.reduceEqDiff,YtejmkibjpaoahaaGreatDoorLW2Fs5];refine ak.mono (groups61 n 0 b6 n d6 (rimEs xs n n) 1 h13 (R6.ext z13) l1.symm (by omega) (rim_opn B1)) ?_;rintro v h14 ⟨⟨w,rfl,h0,x0,GP⟩,x14⟩;obtain⟨⟨ag,ng,cg,G,rfl,hG,_,_,_,_,M3⟩,_⟩:=GP;simp only[coreS,Value.cells,Value.oneCell',Nat.reduceAdd,Nat.reduceSub,Nat.reduceMul,Nat.reduceLeDiff,Int.reduceEq,Nat.reduceEqDiff,YtejmkibjpaoahaaGreatDoorLW2Fs5];obtain⟨e13,e2,eo,hz,hq,e8⟩:=rim_plain B1 B2 hys hsn C P M1 M2 M3;have hbl:balsR n 0 (rimEs xs n n) 1=bals n (rimEs xs n n) 1:=by rw[balsR,if_pos (rim_opn B1),Int.toNat_natCast]
 rw[hbl]at I4;obtain rfl:m4=n:=by have:=I4.len;rw[bals_length]at this;exact this
 have y14:Ext h1 h14:=(((y7.trans x10).trans z13).trans x14);rw[eo,e13,e2];obtain⟨L,hL⟩:∃L,L=l8 (rimEs xs m4 m4) 1:=⟨_,rfl⟩;rw[<-hL]at hz hq e8 ⊢;rw[e8];refine⟨fun _=>⟨fun _=> ?_,fun h=>absurd rfl h⟩,fun h=>absurd rfl h⟩
 replace I4:=I4.ext x14
 refine zAi [20,21,135,136,137,138,139,140,141,142,143,144,145,146] (fun e h'=>h'=h14/\∃i:Nat,i<=m4/\e 21= .int .i64 i/\e 20= .int .i64 (LS.opens L i:Nat)) (fun e _=>match e 21 with| .int _ q=>m4-q.toNat|_=>0) ⟨rfl,0,by omega,rfl,rfl⟩ ?_;rintro e3 h' ⟨rfl,i,hi,he3,he20⟩;simp only[he3,he20,coreS,Value.cells,Value.oneCell',Nat.reduceAdd,Nat.reduceSub,Nat.reduceMul,Nat.reduceLeDiff,Int.reduceEq,Nat.reduceEqDiff,YtejmkibjpaoahaaGreatDoorLW2Fs5];refine⟨fun hlt=> ?_,fun hge=> ?_⟩
 .have hin:i<m4:=by omega
  have ci:=I4.cell (j:=i) (by rw[bals_length];omega);have si:=I4.isSome (by rw[bals_length];omega);have hLi:(bals m4 (rimEs xs m4 m4) 1).getD i 0=L i:=by
   rw[bals_get _ _ hin,rim_bal hin,hL,rim_l8 B1]
  rw[hLi]at ci;simp only[ci,he20,coreS,Value.cells,Value.oneCell',Nat.reduceAdd,Nat.reduceSub,Nat.reduceMul,Nat.reduceLeDiff,Int.reduceEq,Nat.reduceEqDiff,YtejmkibjpaoahaaGreatDoorLW2Fs5];have nx:=opens_next L i;have nl:LS.opens L i<=i:=by
   unfold LS.opens;refine Nat.le_trans (List.length_filter_le _ _) ?_;rw[List.length_range];exact Nat.le_refl _
  refine⟨by omega,si,fun hz0=>⟨by rw[zBS];omega,Zr (by kernel_rfl) ⟨rfl,i+1,by omega,rfl,by rw[nx,if_pos hz0];rfl⟩ ?_⟩,fun hz0=>⟨by rw[zBS];omega,by rw[zBS];omega,Zr (by kernel_rfl) ⟨rfl,i+1,by omega,rfl,by rw[nx,if_neg hz0];push_cast;rfl⟩ ?_⟩⟩
  .show m4-((i:Int)+1).toNat<m4-(i:Int).toNat;omega
  .show m4-((i:Int)+1).toNat<m4-(i:Int).toNat;omega
 .obtain rfl:m4=i:=by omega
  refine zB6 Tryz.underlying4 rfl rfl ?_;have e:(decide (((LS.opens L m4:Nat):Int)=0)==decide ((p:Int)=1))=true:=by
   by_cases h0:LS.opens L m4=0
   .have:=hz.1 h0;simp[h0,this]
   .have:¬(p:Int)=1:=fun h=>h0 (hz.2 (by omega))
    have h0':¬((LS.opens L m4:Nat):Int)=0:=by omega
    simp[h0,this]
  rw[e];simp only[decide_true,coreS,Value.cells,Value.oneCell',Nat.reduceAdd,Nat.reduceSub,Nat.reduceMul,Nat.reduceLeDiff,Int.reduceEq,Nat.reduceEqDiff,YtejmkibjpaoahaaGreatDoorLW2Fs5];have nl:LS.opens L m4<=m4:=by
   unfold LS.opens;refine Nat.le_trans (List.length_filter_le _ _) ?_;rw[List.length_range];exact Nat.le_refl _
  refine⟨by rw[zBS];omega,fun h0=> ?_,fun h0=> ?_⟩
  .refine works _ _ y14 fun h'' x=> ?_
   simp only[coreS,Value.cells,Value.oneCell',Nat.reduceAdd,Nat.reduceSub,Nat.reduceMul,Nat.reduceLeDiff,Int.reduceEq,Nat.reduceEqDiff,YtejmkibjpaoahaaGreatDoorLW2Fs5];exact x
  .have hqn:(q:Int)<=(ng:Int):=by have:=hq (by omega);omega
   simp only[hdq,hqn,decide_true,coreS,Value.cells,Value.oneCell',Nat.reduceAdd,Nat.reduceSub,Nat.reduceMul,Nat.reduceLeDiff,Int.reduceEq,Nat.reduceEqDiff,YtejmkibjpaoahaaGreatDoorLW2Fs5];refine⟨by omega,by rw[zBS];have:=Nat.mul_le_mul_left q hp0;rw[<-C.d]at this;omega,?_⟩;refine works _ _ y14 fun h'' x=> ?_
   simp only[coreS,Value.cells,Value.oneCell',Nat.reduceAdd,Nat.reduceSub,Nat.reduceMul,Nat.reduceLeDiff,Int.reduceEq,Nat.reduceEqDiff,YtejmkibjpaoahaaGreatDoorLW2Fs5];exact x
end Go.Proofs.YtejmkibjpaoahaaGreatDoor
end
