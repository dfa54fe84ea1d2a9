/- Walks: Compare, Equal, and the least start of a rim. No condition. -/
import Derived.Test.YtljjlhbbcjjmlaaGreatDoorRW2
namespace Go.Proofs.YtljjlhbbcjjmlaaGreatDoor
open Go Go.Proofs Go.Eng Go.Run Tab RL
set_option maxRecDepth 100000
set_option linter.unusedSimpArgs false
set_option linter.unusedVariables false
set_option linter.defProp false
set_option maxHeartbeats 2000000
set_option linter.defProp false
def YtljjlhbbcjjmlaaGreatDoorRW3Fs9:=(And.intro (And.intro (And.intro (And.intro @agg25 @agg26) (And.intro @agg3 @agg62)) (And.intro (And.intro @fo64_1 @inf25) (And.intro @inf26 @inf3))) (And.intro (And.intro (And.intro @inf62 @sz25) (And.intro @sz26 @sz3)) (And.intro (And.intro @sz62 @zero26) (And.intro @zero3 @Tryz.underlying25))))
def YtljjlhbbcjjmlaaGreatDoorRW3Fs28:=(And.intro (And.intro @agg3 @by3) (And.intro @inf3 (And.intro @sz3 @Tryz.underlying25)))
def YtljjlhbbcjjmlaaGreatDoorRW3Fs29:=(And.intro (And.intro (And.intro @agg25 (And.intro @agg58 @by3)) (And.intro (And.intro @fo60_1 @fo64_0) (And.intro @inf25 @inf3))) (And.intro (And.intro @inf58 (And.intro @sz25 @sz3)) (And.intro (And.intro @sz58 @zero3) (And.intro @zero58 @Tryz.underlying25))))
def YtljjlhbbcjjmlaaGreatDoorRW3Fs65:=(And.intro (And.intro (And.intro @agg25 @agg54) (And.intro @fo60_1 @fo64_0)) (And.intro (And.intro @inf25 @inf54) (And.intro @sz25 (And.intro @sz54 @Tryz.underlying25))))
def YtljjlhbbcjjmlaaGreatDoorRW3Fs66:=(And.intro (And.intro @agg3 @by3) (And.intro @inf3 (And.intro @sz3 @Tryz.underlying25)))
def YtljjlhbbcjjmlaaGreatDoorRW3Fs67:=(And.intro @agg58 (And.intro @inf58 @sz58))
def YtljjlhbbcjjmlaaGreatDoorRW3Fs68:=(And.intro (And.intro @agg3 @by3) (And.intro @inf3 (And.intro @sz3 @Tryz.underlying25)))
theorem drop_nextI {xs:List Int}{i:Nat}(hi:i<xs.length):xs.drop i=xs.getD i 0::xs.drop (i+1):=by
 rw[List.drop_eq_getElem_cons hi];simp[List.getD,List.getElem?_eq_getElem hi]
theorem compare68 (a:Option Addr)(n c:Nat)(xs:List Int)(b:Option Addr)(m d:Nat)(ys:List Int)(h:Eng.Heap)(hx:eu h a n xs)(hy:eu h b m ys)(hn:n<=1000)(hm:m<=1000):
 ak Tryz.prog 68 #[.slice a n c,.slice b m d] h (fun v h'=>v= .int .i64 (cmpL xs ys)/\h'=h):=by
 have l1:=hx.len;have l2:=hy.len
 (refine Rm Tryz.func68 rfl bod68 ?_;simp only[Tryz.ntmps68,Tryz.results68,coreS,U1,splice,Value.cells,Value.oneCell',Nat.reduceAdd,Nat.reduceSub,Nat.reduceMul,Nat.reduceLeDiff,Int.reduceEq,Nat.reduceEqDiff,YtljjlhbbcjjmlaaGreatDoorRW3Fs68])
 refine zAi [4,5,6,7,8,11,12,13,14,15,16,17,18,19,20,21,22,23,24,25,26,27,28,29,30] (fun g h'=>h'=h/\∃i:Nat,i<=n/\i<=m/\g 11= .int .i64 i/\cmpL xs ys=cmpL (xs.drop i) (ys.drop i)) (fun g _=>match g 11 with| .int _ m=>n-m.toNat|_=>0) ⟨rfl,0,by omega,by omega,rfl,rfl⟩ ?_;rintro g h' ⟨rfl,i,hi,him,hg,hc⟩;simp only[hg,coreS,Value.cells,Value.oneCell',Nat.reduceAdd,Nat.reduceSub,Nat.reduceMul,Nat.reduceLeDiff,Int.reduceEq,Nat.reduceEqDiff,YtljjlhbbcjjmlaaGreatDoorRW3Fs68];refine⟨fun hlt=> ?_,fun hge=> ?_⟩
 .have hil:i<xs.length:=by omega
  simp only[hx.cell hil,coreS,Value.cells,Value.oneCell',Nat.reduceAdd,Nat.reduceSub,Nat.reduceMul,Nat.reduceLeDiff,Int.reduceEq,Nat.reduceEqDiff,YtljjlhbbcjjmlaaGreatDoorRW3Fs68];refine⟨by omega,hx.isSome (by omega),?_⟩;refine⟨fun hge=> ?_,fun hlt2=> ?_⟩
  .have e:ys.drop i=[]:=List.drop_of_length_le (by omega);rw[hc,e,drop_nextI hil];rfl
  .have hiy:i<ys.length:=by omega
   simp only[hy.cell hiy,coreS,Value.cells,Value.oneCell',Nat.reduceAdd,Nat.reduceSub,Nat.reduceMul,Nat.reduceLeDiff,Int.reduceEq,Nat.reduceEqDiff,YtljjlhbbcjjmlaaGreatDoorRW3Fs68];refine⟨by omega,hy.isSome (by omega),?_⟩;refine ak.mono (cmp120 _ _ _) ?_;rintro v h1 ⟨rfl,rfl⟩;simp only[coreS,Value.cells,Value.oneCell',Nat.reduceAdd,Nat.reduceSub,Nat.reduceMul,Nat.reduceLeDiff,Int.reduceEq,Nat.reduceEqDiff,YtljjlhbbcjjmlaaGreatDoorRW3Fs68];have hcc:cmpL xs ys=if xs.getD i 0<ys.getD i 0 then-1 else if ys.getD i 0<xs.getD i 0 then 1 else cmpL (xs.drop (i+1)) (ys.drop (i+1)):=by
    rw[hc,drop_nextI hil,drop_nextI hiy];rfl
   by_cases h1:xs.getD i 0<ys.getD i 0
   .rw[if_pos h1]at hcc;simp only[h1,if_true,coreS,Value.cells,Value.oneCell',Nat.reduceAdd,Nat.reduceSub,Nat.reduceMul,Nat.reduceLeDiff,Int.reduceEq,Nat.reduceEqDiff,YtljjlhbbcjjmlaaGreatDoorRW3Fs68];rw[hcc]
   .rw[if_neg h1]at hcc;by_cases h2:ys.getD i 0<xs.getD i 0
    .rw[if_pos h2]at hcc;simp only[h1,h2,if_true,if_false,coreS,Value.cells,Value.oneCell',Nat.reduceAdd,Nat.reduceSub,Nat.reduceMul,Nat.reduceLeDiff,Int.reduceEq,Nat.reduceEqDiff,YtljjlhbbcjjmlaaGreatDoorRW3Fs68];rw[hcc]
    .rw[if_neg h2]at hcc;simp only[h1,h2,if_false,coreS,Value.cells,Value.oneCell',Nat.reduceAdd,Nat.reduceSub,Nat.reduceMul,Nat.reduceLeDiff,Int.reduceEq,Nat.reduceEqDiff,YtljjlhbbcjjmlaaGreatDoorRW3Fs68];refine⟨by rw[zBS];omega,Zr (by kernel_rfl) ⟨rfl,i+1,by omega,by omega,rfl,hcc⟩ ?_⟩;show n-((i:Int)+1).toNat<n-(i:Int).toNat;omega
 .have hin:i=n:=by omega
  subst hin;have e:xs.drop i=[]:=List.drop_of_length_le (by omega);rw[e]at hc;refine⟨fun hlt=> ?_,fun hge=> ?_⟩
  .rw[hc,drop_nextI (xs:=ys) (by omega)];rfl
  .rw[hc,List.drop_of_length_le (l:=ys) (by omega)];rfl
theorem equal28 (a:Option Addr)(n c:Nat)(xs:List Int)(b:Option Addr)(m d:Nat)(ys:List Int)(h:Eng.Heap)(hx:eu h a n xs)(hy:eu h b m ys)(hn:n<=1000)(hm:m<=1000):
 ak Tryz.prog 28 #[.slice a n c,.slice b m d] h (fun v h'=>v= .bool (decide (xs=ys))/\h'=h):=by
 have l1:=hx.len;have l2:=hy.len
 (refine Rm Tryz.func28 rfl bod28 ?_;simp only[Tryz.ntmps28,Tryz.results28,coreS,U1,splice,Value.cells,Value.oneCell',Nat.reduceAdd,Nat.reduceSub,Nat.reduceMul,Nat.reduceLeDiff,Int.reduceEq,Nat.reduceEqDiff,YtljjlhbbcjjmlaaGreatDoorRW3Fs28])
 by_cases he:(n:Int)=m
 .simp only[he,decide_true,Bool.not_true,coreS,Value.cells,Value.oneCell',Nat.reduceAdd,Nat.reduceSub,Nat.reduceMul,Nat.reduceLeDiff,Int.reduceEq,Nat.reduceEqDiff,YtljjlhbbcjjmlaaGreatDoorRW3Fs28];refine zAi [4,5,13,14,15,16,17,18,19,20,21,22,23,24,25] (fun g h'=>h'=h/\∃i:Nat,i<=n/\g 13= .int .i64 i/\∀j<i,xs.getD j 0=ys.getD j 0) (fun g _=>match g 13 with| .int _ m=>n-m.toNat|_=>0) ⟨rfl,0,by omega,rfl,fun j hj=>by omega⟩ ?_;rintro g h' ⟨rfl,i,hi,hg,hno⟩;simp only[hg,coreS,Value.cells,Value.oneCell',Nat.reduceAdd,Nat.reduceSub,Nat.reduceMul,Nat.reduceLeDiff,Int.reduceEq,Nat.reduceEqDiff,YtljjlhbbcjjmlaaGreatDoorRW3Fs28];refine⟨fun hlt=> ?_,fun hge=> ?_⟩
  .have hil:i<xs.length:=by omega
   have hiy:i<ys.length:=by omega
   refine zB9 (by kernel_rfl) zBp [(0,0),(1,0),(2,0),(3,0),(4,0),(5,0),(6,0),(7,0),(8,0)] (by kernel_rfl) rfl (by kernel_rfl) ?_;simp only[hx.cell hil,hy.cell hiy,coreS,Value.cells,Value.oneCell',Nat.reduceAdd,Nat.reduceSub,Nat.reduceMul,Nat.reduceLeDiff,Int.reduceEq,Nat.reduceEqDiff,drawS,YtljjlhbbcjjmlaaGreatDoorRW3Fs28]
   repeat (refine And.intro (by first|omega|(rw[zBS];omega)|rfl|assumption|(exact hx.isSome (by omega))|(exact hy.isSome (by omega))) ?_)
   by_cases hxy:xs.getD i 0=ys.getD i 0
   .simp only[hxy,decide_true,Bool.not_true,coreS,Value.cells,Value.oneCell',Nat.reduceAdd,Nat.reduceSub,Nat.reduceMul,Nat.reduceLeDiff,Int.reduceEq,Nat.reduceEqDiff,YtljjlhbbcjjmlaaGreatDoorRW3Fs28];refine⟨by rw[zBS];omega,Zr (by kernel_rfl) ⟨rfl,i+1,by omega,rfl,fun j hj=> ?_⟩ ?_⟩
    .by_cases hji:j=i
     .subst hji;exact hxy
     .exact hno j (by omega)
    .show n-((i:Int)+1).toNat<n-(i:Int).toNat;omega
   .have hne:¬xs=ys:=fun hh=>hxy (by rw[hh])
    simp only[hxy,decide_false,Bool.not_false,coreS,Value.cells,Value.oneCell',Nat.reduceAdd,Nat.reduceSub,Nat.reduceMul,Nat.reduceLeDiff,Int.reduceEq,Nat.reduceEqDiff,YtljjlhbbcjjmlaaGreatDoorRW3Fs28];simp[hne]
  .have hxy:xs=ys:=ext_getD (by omega) fun j hj=>hno j (by omega)
   simp[hxy]
 .have hne:¬xs=ys:=fun hh=>he (by rw[l1,l2,hh])
  simp only[he,decide_false,Bool.not_false,coreS,Value.cells,Value.oneCell',Nat.reduceAdd,Nat.reduceSub,Nat.reduceMul,Nat.reduceLeDiff,Int.reduceEq,Nat.reduceEqDiff,YtljjlhbbcjjmlaaGreatDoorRW3Fs28];simp[hne]
theorem start67 (q b:Nat)(k:Int)(a:Option Addr)(n c i j:Nat)(xs:List Int)(h:Eng.Heap)(hq:h[q]? =some (.cells #[.func (.func 26) #[.pointer (some ⟨b,0,none⟩)] #[]] 58))(H:Rd h b k a n c xs)(R:Rim k xs)(hi:i<n)(hj:j<n):
 ak Tryz.prog 67 (#[]++ #[.int .i64 i,.int .i64 j]++ #[.pointer (some ⟨q,0,none⟩)]) h (fun v h'=>v= .int .i64 (cmpL (rotL xs i) (rotL xs j))/\Ext h h'):=by
 have hn:=H.row.len;have hL:=R.len;simp only[Array.append_empty,Array.empty_append,List.append_toArray,List.cons_append,List.nil_append]
 (refine Rm Tryz.func67 rfl bod67 ?_;simp only[Tryz.ntmps67,Tryz.results67,coreS,U1,splice,Value.cells,Value.oneCell',Nat.reduceAdd,Nat.reduceSub,Nat.reduceMul,Nat.reduceLeDiff,Int.reduceEq,Nat.reduceEqDiff,YtljjlhbbcjjmlaaGreatDoorRW3Fs67])
 refine zB7 (by kernel_rfl) zBc (.quiet 0 (.quiet 1 (.quiet 3 (.quiet 4 (.keep 2 (.keep 5 (.keep 6 (.quiet 7 (.fin))))))))) (by kernel_rfl) rfl (by kernel_rfl) ?_;simp only[hq,splice,coreS,Value.cells,Value.oneCell',Nat.reduceAdd,Nat.reduceSub,Nat.reduceMul,Nat.reduceLeDiff,Int.reduceEq,Nat.reduceEqDiff,drawS,treeS,YtljjlhbbcjjmlaaGreatDoorRW3Fs67];refine YD fun hA xA=> ?_
 try simp only[splice,coreS,Value.cells,Value.oneCell',Nat.reduceAdd,Nat.reduceSub,Nat.reduceMul,Nat.reduceLeDiff,Int.reduceEq,Nat.reduceEqDiff,drawS,treeS,YtljjlhbbcjjmlaaGreatDoorRW3Fs67]
 refine ak.mono (turned26 b k a n c i xs hA (H.ext xA) R hi) ?_;rintro v h1 ⟨x1,a1,c1,rfl,O1⟩;refine⟨x1,?_⟩
 try simp only[splice,coreS,Value.cells,Value.oneCell',Nat.reduceAdd,Nat.reduceSub,Nat.reduceMul,Nat.reduceLeDiff,Int.reduceEq,Nat.reduceEqDiff,drawS,treeS,YtljjlhbbcjjmlaaGreatDoorRW3Fs67]
 refine YD fun hB xB=> ?_
 try simp only[splice,coreS,Value.cells,Value.oneCell',Nat.reduceAdd,Nat.reduceSub,Nat.reduceMul,Nat.reduceLeDiff,Int.reduceEq,Nat.reduceEqDiff,drawS,treeS,YtljjlhbbcjjmlaaGreatDoorRW3Fs67]
 refine ak.mono (turned26 b k a n c j xs hB (H.ext ((xA.trans x1).trans xB)) R hj) ?_;rintro v h2 ⟨x2,a2,c2,rfl,O2⟩;refine⟨x2,?_⟩
 try simp only[splice,coreS,Value.cells,Value.oneCell',Nat.reduceAdd,Nat.reduceSub,Nat.reduceMul,Nat.reduceLeDiff,Int.reduceEq,Nat.reduceEqDiff,drawS,treeS,YtljjlhbbcjjmlaaGreatDoorRW3Fs67]
 refine YD fun hC xC=> ?_
 try simp only[splice,coreS,Value.cells,Value.oneCell',Nat.reduceAdd,Nat.reduceSub,Nat.reduceMul,Nat.reduceLeDiff,Int.reduceEq,Nat.reduceEqDiff,drawS,treeS,YtljjlhbbcjjmlaaGreatDoorRW3Fs67]
 refine ak.mono (compare68 a1 _ c1 _ a2 _ c2 _ hC (O1.ints.ext ((xB.trans x2).trans xC)) (O2.ints.ext xC) (by rw[rotL_length _ _ (by omega)];omega) (by rw[rotL_length _ _ (by omega)];omega)) ?_;rintro v h3 ⟨rfl,rfl⟩;refine⟨Ext.refl _,?_⟩
 try simp only[splice,coreS,Value.cells,Value.oneCell',Nat.reduceAdd,Nat.reduceSub,Nat.reduceMul,Nat.reduceLeDiff,Int.reduceEq,Nat.reduceEqDiff,drawS,treeS,YtljjlhbbcjjmlaaGreatDoorRW3Fs67]
 refine zAN fun hD xD=> ?_
 simp only[coreS,Value.cells,Value.oneCell',Nat.reduceAdd,Nat.reduceSub,Nat.reduceMul,Nat.reduceLeDiff,Int.reduceEq,Nat.reduceEqDiff,YtljjlhbbcjjmlaaGreatDoorRW3Fs67];exact(((((xA.trans x1).trans xB).trans x2).trans xC)).trans xD
theorem least66 (q b:Nat)(k:Int)(a:Option Addr)(n c:Nat)(xs:List Int)(a2:Option Addr)(c2:Nat)(h:Eng.Heap)(hq:h[q]? =some (.cells #[.func (.func 26) #[.pointer (some ⟨b,0,none⟩)] #[]] 58))(H:Rd h b k a n c xs)(R:Rim k xs)(I:eu h a2 n (zs (List.range n)))(hc2:n<=c2):
 ak Tryz.prog 66 #[.slice a2 n c2,.func (.func 67) #[] #[.pointer (some ⟨q,0,none⟩)]] h (fun v h'=>(∃r:Nat,v= .int .i64 r/\Low xs r)/\Ext h h'):=by
 have hn:=H.row.len;have hL:=R.len;have hz:∀i,i<n->(zs (List.range n)).getD i 0=(i:Int):=fun i hi=>by rw[zs_get];simp[List.getD,hi]
 have hzl:(zs (List.range n)).length=n:=by rw[zs_length,List.length_range]
 have c0:=I.cell (j:=0) (by omega);have hsm:=I.isSome (by omega);rw[hz 0 (by omega)]at c0
 (refine Rm Tryz.func66 rfl bod66 ?_;simp only[Tryz.ntmps66,Tryz.results66,coreS,U1,splice,Value.cells,Value.oneCell',Nat.reduceAdd,Nat.reduceSub,Nat.reduceMul,Nat.reduceLeDiff,Int.reduceEq,Nat.reduceEqDiff,YtljjlhbbcjjmlaaGreatDoorRW3Fs66])
 simp only[c0,coreS,Value.cells,Value.oneCell',Nat.reduceAdd,Nat.reduceSub,Nat.reduceMul,Nat.reduceLeDiff,Int.reduceEq,Nat.reduceEqDiff,YtljjlhbbcjjmlaaGreatDoorRW3Fs66];have I1:eu h (if(c2:Int)=1 then a2 else lg a2 1) (n-1) (((zs (List.range n)).drop 1).take (n-1)):=XU (lo:=1) (hi:=n) I (by omega) (Nat.le_refl n) hc2;have z1:∀i,i<n-1->(((zs (List.range n)).drop 1).take (n-1)).getD i 0=((i+1:Nat):Int):=fun i hi=>by
  have:(((zs (List.range n)).drop 1).take (n-1))[i]? =(zs (List.range n))[1+i]? :=by rw[List.getElem?_take_of_lt hi,List.getElem?_drop]
  have h2:=hz (i+1) (by omega);simp only[List.getD]at h2 ⊢;rw[this,Nat.add_comm 1 i];exact h2
 have e1:((n:Int)-1).toNat=n-1:=by omega
 have l1:(((zs (List.range n)).drop 1).take (n-1)).length=n-1:=I1.len.symm
 repeat (refine And.intro (by first|omega|(rw[zBS];omega)|rfl|assumption) ?_)
 rw[e1];refine zAi [5,7,14,15,16,17,18,19,20,21,22,23,24] (fun g h'=>∃i r:Nat,i<=n-1/\g 14= .int .i64 i/\g 5= .int .i64 r/\r<=i/\(∀t,t<=i->¬cmpL (rotL xs t) (rotL xs r)<0)/\Ext h h') (fun g _=>match g 14 with| .int _ m=>n-m.toNat|_=>0) ⟨0,0,by omega,rfl,rfl,by omega,fun t ht=> ?_,Ext.refl h⟩ ?_
 .have:t=0:=by omega
  subst this;rw[cmpL_self];decide
 rintro g h' ⟨i,r,hi,hg,hr,hri,hlow,x⟩;simp only[hg,hr,coreS,Value.cells,Value.oneCell',Nat.reduceAdd,Nat.reduceSub,Nat.reduceMul,Nat.reduceLeDiff,Int.reduceEq,Nat.reduceEqDiff,YtljjlhbbcjjmlaaGreatDoorRW3Fs66];refine⟨fun hlt=> ?_,fun hge=> ?_⟩
 .have hil:i<(((zs (List.range n)).drop 1).take (n-1)).length:=by omega
  simp only[(I1.ext x).cell hil,z1 i (by omega),coreS,Value.cells,Value.oneCell',Nat.reduceAdd,Nat.reduceSub,Nat.reduceMul,Nat.reduceLeDiff,Int.reduceEq,Nat.reduceEqDiff,YtljjlhbbcjjmlaaGreatDoorRW3Fs66];refine⟨by omega,I1.isSome (by omega),?_⟩;refine ak.mono (start67 q b k a n c (i+1) r xs h' (x.get hq) (H.ext x) R (by omega) (by omega)) ?_;rintro v h1 ⟨rfl,x1⟩;simp only[coreS,Value.cells,Value.oneCell',Nat.reduceAdd,Nat.reduceSub,Nat.reduceMul,Nat.reduceLeDiff,Int.reduceEq,Nat.reduceEqDiff,YtljjlhbbcjjmlaaGreatDoorRW3Fs66];refine⟨fun hlt2=> ?_,fun hge2=> ?_⟩
  .refine⟨by rw[zBS];omega,Zr (by kernel_rfl) ⟨i+1,i+1,by omega,rfl,rfl,Nat.le_refl _,fun t ht hh=> ?_,x.trans x1⟩ ?_⟩
   .by_cases ht2:t=i+1
    .subst ht2;rw[cmpL_self]at hh;exact absurd hh (by decide)
    .exact hlow t (by omega) (cmpL_trans hh hlt2)
   .show n-((i:Int)+1).toNat<n-(i:Int).toNat;omega
  .refine⟨by rw[zBS];omega,Zr (by kernel_rfl) ⟨i+1,r,by omega,rfl,rfl,by omega,fun t ht hh=> ?_,x.trans x1⟩ ?_⟩
   .by_cases ht2:t=i+1
    .subst ht2;exact hge2 hh
    .exact hlow t (by omega) hh
   .show n-((i:Int)+1).toNat<n-(i:Int).toNat;omega
 .exact⟨⟨r,rfl,by omega,fun t ht=>hlow t (by omega)⟩,x⟩
theorem start29 (b:Nat)(k:Int)(a:Option Addr)(n c:Nat)(xs:List Int)(h:Eng.Heap)(H:Rd h b k a n c xs)(R:Rim k xs):
 ak Tryz.prog 29 #[.pointer (some ⟨b,0,none⟩)] h (fun v h'=>(∃r:Nat,v= .int .i64 r/\Low xs r)/\Ext h h'):=by
 have hn:=H.row.len;have hL:=R.len;have hb:=H.cells
 (refine Rm Tryz.func29 rfl bod29 ?_;simp only[Tryz.ntmps29,Tryz.results29,coreS,U1,splice,Value.cells,Value.oneCell',Nat.reduceAdd,Nat.reduceSub,Nat.reduceMul,Nat.reduceLeDiff,Int.reduceEq,Nat.reduceEqDiff,YtljjlhbbcjjmlaaGreatDoorRW3Fs29])
 simp only[hb,rdC,coreS,Value.cells,Value.oneCell',Nat.reduceAdd,Nat.reduceSub,Nat.reduceMul,Nat.reduceLeDiff,Int.reduceEq,Nat.reduceEqDiff,YtljjlhbbcjjmlaaGreatDoorRW3Fs29];refine zAi [3,4,12,13,14,15,16,17,18,19] (fun g h'=>∃i:Nat,i<=n/\g 12= .int .i64 i/\Ext h h'/\∃a2 c2,g 3= .slice a2 i c2/\eG h.size h' 3 a2 i c2 (zs (List.range i))) (fun g _=>match g 12 with| .int _ m=>n-m.toNat|_=>0) ⟨0,by omega,rfl,Ext.refl h,none,0,rfl,eG.nil _ _ _⟩ ?_;rintro g h' ⟨i,hi,hg,x,a2,c2,hg3,O⟩;simp only[hg,hg3,coreS,Value.cells,Value.oneCell',Nat.reduceAdd,Nat.reduceSub,Nat.reduceMul,Nat.reduceLeDiff,Int.reduceEq,Nat.reduceEqDiff,YtljjlhbbcjjmlaaGreatDoorRW3Fs29];refine⟨fun hlt=> ?_,fun hge=> ?_⟩
 .have O1:=O.ext ((Ext.refl h').push (.cells #[.int .i64 (i:Nat)] 3))
  repeat (refine And.intro (by first|omega|(rw[zBS];omega)|rfl|assumption) ?_)
  refine app25 rfl rfl O1 (by have:=x.size;simp;omega) intsV_one (by omega) fun a' cap' h2 O2 A=> ?_
  simp only[coreS,Value.cells,Value.oneCell',Nat.reduceAdd,Nat.reduceSub,Nat.reduceMul,Nat.reduceLeDiff,Int.reduceEq,Nat.reduceEqDiff,YtljjlhbbcjjmlaaGreatDoorRW3Fs29];refine⟨by rw[zBS];omega,Zr (by kernel_rfl) ⟨i+1,by omega,rfl,A.extN O1 (x.push _) (Nat.le_refl _),a',cap',rfl,?_⟩ ?_⟩
  .rw[show zs (List.range (i+1))=zs (List.range i)++[(i:Int)] by rw[List.range_succ,zs_append];rfl];exact O2
  .show n-((i:Int)+1).toNat<n-(i:Int).toNat;omega
 .have:i=n:=by omega
  subst this;have x1:=(x.push (.cells #[.nilFunc] 58));refine Oy (c:=[.nilFunc]) jD (by simp) fun h3 g3 u3=> ?_
  replace g3:h3[h'.size]? =some (.cells #[.func (.func 26) #[.pointer (some ⟨b,0,none⟩)] #[]] 58):=g3
  have x3:Ext h' h3:=u3.ext ((Ext.refl h').push _) (Nat.le_refl _);simp only[coreS,Value.cells,Value.oneCell',Nat.reduceAdd,Nat.reduceSub,Nat.reduceMul,Nat.reduceLeDiff,Int.reduceEq,Nat.reduceEqDiff,YtljjlhbbcjjmlaaGreatDoorRW3Fs29];refine ak.mono (least66 h'.size b k a i c xs a2 c2 h3 g3 (H.ext (x.trans x3)) R (O.ints.ext x3) O.cap) ?_;rintro v h4 ⟨⟨r,rfl,L⟩,x4⟩;simp only[coreS,Value.cells,Value.oneCell',Nat.reduceAdd,Nat.reduceSub,Nat.reduceMul,Nat.reduceLeDiff,Int.reduceEq,Nat.reduceEqDiff,YtljjlhbbcjjmlaaGreatDoorRW3Fs29];exact⟨⟨r,rfl,L⟩,(x.trans x3).trans x4⟩
theorem least10 (k:Int)(a:Option Addr)(n c:Nat)(xs:List Int)(h:Eng.Heap)(hs:eu h a n xs)(hc:n<=c)(R:Rim k xs):
 ak Tryz.prog 10 #[.int .i64 k,.slice a n c] h (fun v h'=>Ext h h'/\∃r:Nat,Low xs r/\∃a2 c2,v= .tuple #[.slice a2 n c2,.int .i64 r,.int .i64 0]/\n<=c2/\eu h' a2 n (rotL xs r)):=by
 have hn:=hs.len;have hL:=R.len
 (refine Rm Tryz.func10 rfl bod10 ?_;simp only[Tryz.ntmps10,Tryz.results10,coreS,U1,splice,Value.cells,Value.oneCell',Nat.reduceAdd,Nat.reduceSub,Nat.reduceMul,Nat.reduceLeDiff,Int.reduceEq,Nat.reduceEqDiff])
 refine ak.mono (open24 k a n c xs h hs hc R) ?_;rintro v h1 ⟨b,rfl,H,x1⟩;simp only[coreS,Value.cells,Value.oneCell',Nat.reduceAdd,Nat.reduceSub,Nat.reduceMul,Nat.reduceLeDiff,Int.reduceEq,Nat.reduceEqDiff];refine ak.mono (start29 b k a n c xs h1 H R) ?_;rintro v h2 ⟨⟨r,rfl,L⟩,x2⟩;simp only[coreS,Value.cells,Value.oneCell',Nat.reduceAdd,Nat.reduceSub,Nat.reduceMul,Nat.reduceLeDiff,Int.reduceEq,Nat.reduceEqDiff];have hr:r<n:=by have:=L.1;omega
 refine ak.mono (turned26 b k a n c r xs h2 (H.ext x2) R hr) ?_;rintro v h3 ⟨x3,a3,c3,rfl,O3⟩;simp only[coreS,Value.cells,Value.oneCell',Nat.reduceAdd,Nat.reduceSub,Nat.reduceMul,Nat.reduceLeDiff,Int.reduceEq,Nat.reduceEqDiff];have e7:(rotL xs r).length=n:=by rw[rotL_length _ _ (by omega)];omega
 rw[e7]at O3 ⊢;exact⟨(x1.trans x2).trans x3,r,L,a3,c3,rfl,O3.cap,O3.ints⟩
theorem turns27 (r:Value)(h:Eng.Heap):ak Tryz.prog 27 #[r] h (fun v h'=>v= .func (.func 65) #[] #[.pointer (some ⟨h.size,0,none⟩)]/\h'=h.push (.cells r.cells 54)):=by
 (refine Rm Tryz.func27 rfl bod27 ?_;simp only[Tryz.ntmps27,Tryz.results27,coreS,U1,splice,Value.cells,Value.oneCell',Nat.reduceAdd,Nat.reduceSub,Nat.reduceMul,Nat.reduceLeDiff,Int.reduceEq,Nat.reduceEqDiff])
theorem turns65 (lo bx b n c:Nat)(k:Int)(a:Option Addr)(xs:List Int)(h:Eng.Heap)(R:Rim k xs)(hn:n=xs.length)(J:Nat->Eng.Heap->Prop)(E:Eng.Heap->Prop)
 (hb:∀i h,J i h->h[bx]? =some (.cells #[.pointer (some ⟨b,0,none⟩)] 54)) (hr:∀i h,J i h->Rd h b k a n c xs) (h0:J 0 h) (hx:∀i h h',J i h->Ext h h'->J i h')
 (step:∀i h0 h' a2 c2,i<n->J i h0->J i h'->eG h0.size h' 3 a2 n c2 (rotL xs i)->Aw Tryz.prog (.func (.yield lo) #[] #[]) [.int .i64 i,.slice a2 n c2] h' (fun v h''=>(v= .bool true/\J (i+1) h'')\/(v= .bool false/\E h''))):
 ak Tryz.prog 65 (#[]++ #[.func (.yield lo) #[] #[]]++ #[.pointer (some ⟨bx,0,none⟩)]) h (fun v h'=>J n h'\/E h'):=by
 have hL:=R.len;have hb0:=hb 0 h h0;have hr0:=(hr 0 h h0).cells;simp only[Array.append_empty,Array.empty_append,List.append_toArray,List.cons_append,List.nil_append]
 (refine Rm Tryz.func65 rfl bod65 ?_;simp only[Tryz.ntmps65,Tryz.results65,coreS,U1,splice,Value.cells,Value.oneCell',Nat.reduceAdd,Nat.reduceSub,Nat.reduceMul,Nat.reduceLeDiff,Int.reduceEq,Nat.reduceEqDiff,YtljjlhbbcjjmlaaGreatDoorRW3Fs65])
 simp only[hb0,hr0,rdC,coreS,Value.cells,Value.oneCell',Nat.reduceAdd,Nat.reduceSub,Nat.reduceMul,Nat.reduceLeDiff,Int.reduceEq,Nat.reduceEqDiff,YtljjlhbbcjjmlaaGreatDoorRW3Fs65];refine zAi [3,10,11,12,13,14,15,16,17,18,19,20] (fun g h'=>∃i:Nat,i<=n/\g 10= .int .i64 i/\J i h') (fun g _=>match g 10 with| .int _ m=>n-m.toNat|_=>0) ⟨0,by omega,rfl,h0⟩ ?_;rintro g h' ⟨i,hi,hg,hJ⟩;simp only[hg,coreS,Value.cells,Value.oneCell',Nat.reduceAdd,Nat.reduceSub,Nat.reduceMul,Nat.reduceLeDiff,Int.reduceEq,Nat.reduceEqDiff,YtljjlhbbcjjmlaaGreatDoorRW3Fs65];refine⟨fun hlt=> ?_,fun hge=> ?_⟩
 .have hbi:=hb i h' hJ;simp only[hbi,coreS,Value.cells,Value.oneCell',Nat.reduceAdd,Nat.reduceSub,Nat.reduceMul,Nat.reduceLeDiff,Int.reduceEq,Nat.reduceEqDiff,YtljjlhbbcjjmlaaGreatDoorRW3Fs65];refine ak.mono (turned26 b k a n c i xs h' (hr i h' hJ) R (by omega)) ?_;rintro v h1 ⟨x1,a3,c3,rfl,O3⟩;have e7:(rotL xs i).length=n:=by rw[rotL_length _ _ (by omega)];omega
  rw[e7]at O3 ⊢;have hst:=step i h' h1 a3 c3 (by omega) hJ (hx i h' h1 hJ x1) O3;simp only[coreS,Value.cells,Value.oneCell',Nat.reduceAdd,Nat.reduceSub,Nat.reduceMul,Nat.reduceLeDiff,Int.reduceEq,Nat.reduceEqDiff,Uo,YA,XA,Xg,YV,Zi,YtljjlhbbcjjmlaaGreatDoorRW3Fs65];refine hst.run rfl (by rw[Array.toList_map];rfl) ?_;rintro v h2 (⟨rfl,hJ2⟩|⟨rfl,hE⟩)
  .simp only[coreS,Value.cells,Value.oneCell',Nat.reduceAdd,Nat.reduceSub,Nat.reduceMul,Nat.reduceLeDiff,Int.reduceEq,Nat.reduceEqDiff,Uo,YA,XA,Xg,YV,Zi,YtljjlhbbcjjmlaaGreatDoorRW3Fs65];refine⟨by rw[zBS];omega,Zr (by kernel_rfl) ⟨i+1,by omega,rfl,hJ2⟩ ?_⟩;show n-((i:Int)+1).toNat<n-(i:Int).toNat;omega
  .simp only[coreS,Value.cells,Value.oneCell',Nat.reduceAdd,Nat.reduceSub,Nat.reduceMul,Nat.reduceLeDiff,Int.reduceEq,Nat.reduceEqDiff,Uo,YA,XA,Xg,YV,Zi,YtljjlhbbcjjmlaaGreatDoorRW3Fs65];exact .inr hE
 .have:i=n:=by omega
  subst this;exact .inl hJ
theorem eqAggQ {P:Program}{er:Env}{h:Eng.Heap}{ty:TypeId}{Q:Eng.Heap->Eng.Heap->Prop}(hS:Sta Q){p:Pr}(ok:Ok P p){u yt:TypeId}{ti:TI}(hti:p.ty u=some ti){a b:T}{v w:Value}{r:Bool}(hv:VR (fun _=>none) a v)(hw:VR (fun _=>none) b w)(he:mG ti a b=some r){op:BinOp}(ho:op= .eql\/op= .neq)
 {x y:Operand} (hx:ev er x=v) (hy:ev er y=w) {K:Value->Eng.Heap->Prop} (H:K (.bool (if op= .eql then r else !r)) h):iP P Q (.binOp op u x y yt) ty er h K:=by
 refine gT hS (by rcases ho with rfl|rfl<;>rfl) _ H fun W=> ?_
 obtain⟨h1,⟨c,d,rfl,rfl⟩,hg,_⟩:=jW (ok.tf hti) hv hw he W;have:(do eqGuard op u x y (.agg c) (.agg d);Go.binOp op u (.agg c) (.agg d):Sem Value).run P W= .ok (.bool (if op= .eql then r else !r)) W:=by
  rcases ho with rfl|rfl<;>simp[eqGuard,hg,Go.binOp,h1]
 simp only[execOp,Sem.run_bind,hx,hy]at this ⊢;rw[this];rfl
theorem neIntsQ {P:Program}{er:Env}{h:Eng.Heap}{ty:TypeId}{p:Pr}{Q:Eng.Heap->Eng.Heap->Prop}(hS:Sta Q)(ok:Ok P p){u yt:TypeId}{ti:TI}(hti:p.ty u=some ti){xs ys:List Int}(hl:xs.length=ys.length)(h0:0<xs.length)(hfl:ti.fl=List.replicate xs.length .i)
 {x y:Operand} (hx:ev er x= .agg (ints xs).toArray) (hy:ev er y= .agg (ints ys).toArray) {K:Value->Eng.Heap->Prop} (H:K (.bool !(decide (xs=ys))) h):iP P Q (.binOp .neq u x y yt) ty er h K:=by
 refine eqAggQ hS ok hti (a:= .agg (xs.map (T.int .i64))) (b:= .agg (ys.map (T.int .i64))) (r:=decide (xs=ys)) ?_ ?_ ?_ (.inr rfl) hx hy (by simpa using H)
 .simp only[VR];exact⟨_,rfl,by simpa using FP xs⟩
 .simp only[VR];exact⟨_,rfl,by simpa using FP ys⟩
 .have:=EP xs ys hl;unfold mG;rw[hfl];cases hx:xs.length with
  |zero=>omega
  |succ n=>rw[hx]at this;simpa[List.replicate_succ]using this
theorem rdC_often {k:Int}{a:Option Addr}{n c:Nat}{o:List Int}(ho:o.length=4):((rdC k a n c o).drop 2).take 4=ints o:=by
 rw[rdC,List.drop_succ_cons,List.drop_succ_cons,List.drop_zero,List.take_of_length_le (by rw[aR];omega)]
theorem rdC_len {k:Int}{a:Option Addr}{n c:Nat}{o:List Int}(ho:o.length=4):(rdC k a n c o).length=6:=by simp[rdC,aR,ho]
theorem shift9 (k:Int)(a:Option Addr)(n c:Nat)(xs:List Int)(a2:Option Addr)(c2:Nat)(ys:List Int)(h:Eng.Heap)(hs:eu h a n xs)(hc:n<=c)(R:Rim k xs)(hs2:eu h a2 n ys)(hc2:n<=c2)(R2:Rim k ys)(hct:cntL xs=cntL ys)(m:Nat)(hm:m<n)(hy:ys=rotL xs m):
 ak Tryz.prog 9 #[.int .i64 k,.slice a n c,.slice a2 n c2] h (fun v h'=>Ext h h'/\∃w,v= .tuple #[w,.int .i64 0]):=by
 have hn:=hs.len;have hL:=R.len
 (refine Rm Tryz.func9 rfl bod9 ?_;simp only[Tryz.ntmps9,Tryz.results9,coreS,U1,splice,Value.cells,Value.oneCell',Nat.reduceAdd,Nat.reduceSub,Nat.reduceMul,Nat.reduceLeDiff,Int.reduceEq,Nat.reduceEqDiff,YtljjlhbbcjjmlaaGreatDoorRW3Fs9])
 obtain⟨H0,hH0⟩:∃H0,H0=((h.push (.cells #[.slice a2 n c2] 25)).push (.cells #[.int .i64 0] 3)).push (.cells #[.int .i64 0] 26):=⟨_,rfl⟩;have x0:Ext h H0:=by rw[hH0];exact(((Ext.refl h).push _).push _).push _
 have p0:H0[h.size]? =some (.cells #[.slice a2 n c2] 25):=by rw[hH0];exact Jy (Jy jD)
 have p1:H0[h.size+1]? =some (.cells #[.int .i64 0] 3):=by rw[hH0];refine Jy ?_;rw[show h.size+1=(h.push (.cells #[.slice a2 n c2] 25)).size by simp];exact jD
 have p2:H0[h.size+1+1]? =some (.cells #[.int .i64 0] 26):=by rw[hH0,show h.size+1+1=((h.push (.cells #[.slice a2 n c2] 25)).push (.cells #[.int .i64 0] 3)).size by simp];exact jD
 rw[<-hH0];clear hH0;refine ak.mono (open24 k a n c xs H0 (hs.ext x0) hc R) ?_;rintro v h1 ⟨b1,rfl,D1,x1⟩;simp only[x1.get p0,coreS,Value.cells,Value.oneCell',Nat.reduceAdd,Nat.reduceSub,Nat.reduceMul,Nat.reduceLeDiff,Int.reduceEq,Nat.reduceEqDiff,YtljjlhbbcjjmlaaGreatDoorRW3Fs9];refine ak.mono (open24 k a2 n c2 ys h1 (hs2.ext (x0.trans x1)) hc2 R2) ?_;rintro v h2 ⟨b2,rfl,D2,x2⟩;simp only[coreS,Value.cells,Value.oneCell',Nat.reduceAdd,Nat.reduceSub,Nat.reduceMul,Nat.reduceLeDiff,Int.reduceEq,Nat.reduceEqDiff,YtljjlhbbcjjmlaaGreatDoorRW3Fs9];have g1:=x2.get D1.cells;have g2:=D2.cells;have q0:=x2.get (x1.get p0);have q1:=x2.get (x1.get p1);have q2:=x2.get (x1.get p2);have y2:=(x0.trans x1).trans x2;refine zB9 (by kernel_rfl) zBp [(0,0),(1,0),(2,0),(3,0),(4,0),(5,0),(6,0),(7,0),(8,0),(9,0),(10,0),(11,0),(12,0),(13,0),(14,0),(15,0),(16,0)] (by kernel_rfl) rfl (by kernel_rfl) ?_;simp only[g1,g2,q0,coreS,Value.cells,Value.oneCell',Nat.reduceAdd,Nat.reduceSub,Nat.reduceMul,Nat.reduceLeDiff,Int.reduceEq,Nat.reduceEqDiff,drawS,YtljjlhbbcjjmlaaGreatDoorRW3Fs9];rw[LC (by rw[rdC_len (cntL_length _)];omega),rdC_often (cntL_length _)];simp only[Ai,g2,coreS,Value.cells,Value.oneCell',Nat.reduceAdd,Nat.reduceSub,Nat.reduceMul,Nat.reduceLeDiff,Int.reduceEq,Nat.reduceEqDiff,drawS,YtljjlhbbcjjmlaaGreatDoorRW3Fs9];rw[LC (by rw[rdC_len (cntL_length _)];omega),rdC_often (cntL_length _)];simp only[Ai,q0,coreS,Value.cells,Value.oneCell',Nat.reduceAdd,Nat.reduceSub,Nat.reduceMul,Nat.reduceLeDiff,Int.reduceEq,Nat.reduceEqDiff,drawS,YtljjlhbbcjjmlaaGreatDoorRW3Fs9];refine neIntsQ zBp (xs:=cntL xs) (ys:=cntL ys) Pt.ok (ti:=(Pt.pr.ty 62).getD ⟨0,0,.any,.other,[]⟩) (by kernel_rfl) rfl (by rw[cntL_length];omega) (by kernel_rfl) ?_ ?_ ?_
 .rfl
 .rfl
 simp only[hct,decide_true,Bool.not_true,q0,coreS,Value.cells,Value.oneCell',Nat.reduceAdd,Nat.reduceSub,Nat.reduceMul,Nat.reduceLeDiff,Int.reduceEq,Nat.reduceEqDiff,drawS,YtljjlhbbcjjmlaaGreatDoorRW3Fs9];refine ak.mono (turns27 _ _) ?_;rintro v h3 ⟨rfl,rfl⟩;simp only[coreS,Value.cells,Value.oneCell',Nat.reduceAdd,Nat.reduceSub,Nat.reduceMul,Nat.reduceLeDiff,Int.reduceEq,Nat.reduceEqDiff,YtljjlhbbcjjmlaaGreatDoorRW3Fs9];refine DU rfl ?_;intro Q Q1 Q2 Q3 Q4 Q5 Q6 Q7;obtain⟨s2,hs2e⟩:∃s2,s2=h2.size:=⟨_,rfl⟩;have hlt:=bA q2;rw[<-hs2e]at hlt;obtain⟨hh,hhe⟩:∃hh,hh=((h2.push (.cells #[.pointer (some ⟨b1,0,none⟩)] 54)).push (.deferred (some []))).push (.loop Q):=⟨_,rfl⟩;have yx:Ext h2 hh:=by rw[hhe];exact(((Ext.refl h2).push _).push _).push _
 have z0:=yx.get q0;have z1:=yx.get q1;have z2:=yx.get q2;have z3:hh[s2]? =some (.cells #[.pointer (some ⟨b1,0,none⟩)] 54):=by rw[hhe,hs2e];exact Jy (Jy jD)
 have z4:hh[s2+1]? =some (.deferred (some [])):=by
  rw[hhe,hs2e];refine Jy ?_;rw[show h2.size+1=(h2.push (.cells #[.pointer (some ⟨b1,0,none⟩)] 54)).size by simp];exact jD
 have z5:hh[s2+1+1]? =some (.loop Q):=by
  rw[hhe,hs2e,show h2.size+1+1=((h2.push (.cells #[.pointer (some ⟨b1,0,none⟩)] 54)).push (.deferred (some []))).size by simp];exact jD
 have D3:=(D1.ext x2).ext yx;simp only[Rh,<-hs2e];rw[<-hhe];refine ak.mono (turns65 (s2+1+1) s2 b1 n c k a xs hh R hn
  (fun i h'=>(∀j<i,rotL xs j≠ys)/\h'[h.size]? =some (.cells #[.slice a2 n c2] 25)/\h'[h.size+1]? =some (.cells #[.int .i64 0] 3)/\h'[h.size+1+1]? =some (.cells #[.int .i64 0] 26)/\h'[s2]? =some (.cells #[.pointer (some ⟨b1,0,none⟩)] 54)/\h'[s2+1]? =some (.deferred (some []))/\h'[s2+1+1]? =some (.loop Q)/\Ext h2 h')
  (fun h'=>(∃w,h'[h.size+1]? =some (.cells #[w] 3))/\h'[h.size+1+1]? =some (.cells #[.int .i64 0] 26)/\h'[s2+1]? =some (.deferred (some []))/\(∃rec:Loop,h'[s2+1+1]? =some (.loop rec)/\rec.state= .done/\rec.pending=some .ret)/\Ext h h')
  (fun i h' H=>H.2.2.2.2.1) (fun i h' H=>(D1.ext x2).ext H.2.2.2.2.2.2.2) ⟨fun j hj=>by omega,z0,z1,z2,z3,z4,z5,yx⟩ (fun i g g' H x=>⟨H.1,x.get H.2.1,x.get H.2.2.1,x.get H.2.2.2.1,x.get H.2.2.2.2.1,x.get H.2.2.2.2.2.1,x.get H.2.2.2.2.2.2.1,H.2.2.2.2.2.2.2.trans x⟩) ?_) ?_
 .rintro i h9 h' a3 c3 hi ⟨_,_,_,_,_,_,k9,_⟩ ⟨k0,k1,k2,k3,k4,k5,k6,k7⟩ O3;have hl9:=bA k9;refine yZ k6 (by rw[Q4];rfl) ?_;rw[Q3,Q4,Q5,Q6];simp only[coreS,Value.cells,Value.oneCell',Nat.reduceAdd,Nat.reduceSub,Nat.reduceMul,Nat.reduceLeDiff,Int.reduceEq,Nat.reduceEqDiff,Uo,YA,XA,Xg,YV,Zi,YtljjlhbbcjjmlaaGreatDoorRW3Fs9];refine yT k6 Q1 ?_;obtain⟨h6,hh6⟩:∃h6,h6=h'.setIfInBounds (s2+1+1) (.loop {Q with state:= .busy}):=⟨_,rfl⟩;have u6:Upd h' h6 (s2+1+1):=by rw[hh6];exact Upd.set
  have w5:h6[s2+1+1]? =some (.loop {Q with state:= .busy}):=by rw[hh6];exact mE (bA k6)
  rw[<-hh6];have w1:=u6.get k1 (by omega);have w2:=u6.get k2 (by omega);have w3:=u6.get k3 (by omega);have w4:=u6.get k5 (by omega);have w7:=u6.get k4 (by omega);have w6:Ext h2 h6:=u6.ext k7 (by omega);have I6:eu h6 a3 n (rotL xs i):=(O3.upd u6 (by omega)).ints;have Iy:eu h6 a2 n ys:=hs2.ext (y2.trans w6);clear hh6 u6 k1 k2 k3 k4 k5 k6 k7 k9 O3 hhe z0 z1 z2 z3 z4 z5 q0 q1 q2;simp only[w1,coreS,Value.cells,Value.oneCell',Nat.reduceAdd,Nat.reduceSub,Nat.reduceMul,Nat.reduceLeDiff,Int.reduceEq,Nat.reduceEqDiff,Uo,YA,XA,Xg,YV,Zi,YtljjlhbbcjjmlaaGreatDoorRW3Fs9];refine ak.mono (equal28 a3 n c3 _ a2 n c2 ys h6 I6 Iy (by omega) (by omega)) ?_;rintro v h7 ⟨rfl,rfl⟩;simp only[w2,coreS,Value.cells,Value.oneCell',Nat.reduceAdd,Nat.reduceSub,Nat.reduceMul,Nat.reduceLeDiff,Int.reduceEq,Nat.reduceEqDiff,Uo,YA,XA,Xg,YV,Zi,YtljjlhbbcjjmlaaGreatDoorRW3Fs9];refine⟨fun he=> ?_,fun hne=> ?_⟩
  .refine Oy (c:=[.int .i64 0]) w2 (by simp) fun h8 g8 u8=> ?_
   replace g8:h8[h.size+1]? =some (.cells #[.int .i64 i] 3):=g8
   have w3':=u8.get w3 (by omega);simp only[w3',coreS,Value.cells,Value.oneCell',Nat.reduceAdd,Nat.reduceSub,Nat.reduceMul,Nat.reduceLeDiff,Int.reduceEq,Nat.reduceEqDiff,Uo,YA,XA,Xg,YV,Zi,YtljjlhbbcjjmlaaGreatDoorRW3Fs9];refine Oy (c:=[.int .i64 0]) w3' (by simp) fun h10 g10 u10=> ?_
   replace g10:h10[h.size+1+1]? =some (.cells #[.int .i64 0] 26):=g10
   simp only[coreS,Value.cells,Value.oneCell',Nat.reduceAdd,Nat.reduceSub,Nat.reduceMul,Nat.reduceLeDiff,Int.reduceEq,Nat.reduceEqDiff,Uo,YA,XA,Xg,YV,Zi,YtljjlhbbcjjmlaaGreatDoorRW3Fs9];have v5:=u10.get (u8.get w5 (by omega)) (by omega);refine⟨_,v5,?_⟩;have u11:Upd h10 (h10.setIfInBounds (s2+1+1) (.loop {({Q with state:= .busy}:Loop)with state:= .done,pending:=some .ret})) (s2+1+1):=Upd.set;exact .inr ⟨rfl,⟨_,u11.get (u10.get g8 (by omega)) (by omega)⟩,u11.get g10 (by omega),u11.get (u10.get (u8.get w4 (by omega)) (by omega)) (by omega),⟨_,mE (bA v5),rfl,rfl⟩,u11.ext (u10.ext (u8.ext (y2.trans w6) (by omega)) (by omega)) (by omega)⟩
  .try simp only[coreS,Value.cells,Value.oneCell',Nat.reduceAdd,Nat.reduceSub,Nat.reduceMul,Nat.reduceLeDiff,Int.reduceEq,Nat.reduceEqDiff,Uo,YA,XA,Xg,YV,Zi,YtljjlhbbcjjmlaaGreatDoorRW3Fs9]
   refine⟨_,w5,?_⟩;have u8:Upd h7 (h7.setIfInBounds (s2+1+1) (.loop {({Q with state:= .busy}:Loop)with state:= .ready,pending:=none})) (s2+1+1):=Upd.set;refine .inl ⟨rfl,fun j hj=> ?_,u8.get w1 (by omega),u8.get w2 (by omega),u8.get w3 (by omega),u8.get w7 (by omega),u8.get w4 (by omega),?_,u8.ext w6 (by omega)⟩
   .by_cases hji:j=i
    .subst hji;exact hne
    .exact k0 j (by omega)
   .rw[mE (bA w5),Loop.back Q1 Q2]
 .rintro v h5 (⟨k0,_⟩|⟨⟨w,k1⟩,k2,k3,⟨rec,k4,k5,k6⟩,k7⟩)
  .exact absurd hy.symm (k0 m (by omega))
  .refine⟨rec,k4,by rw[k5];decide,?_⟩;rw[k6];show exec none Tryz.prog .ret _ _ _ _;obtain⟨h6,hh6⟩:∃h6,h6=h5.setIfInBounds (s2+1+1) (.loop {rec with state:= .exhausted}):=⟨_,rfl⟩;have u6:Upd h5 h6 (s2+1+1):=by rw[hh6];exact Upd.set
   have w1:=u6.get k1 (by omega);have w2:=u6.get k2 (by omega);have w3:=u6.get k3 (by omega);have w4:Ext h h6:=u6.ext k7 (by have:=y2.size;omega);rw[<-k6,<-hh6];simp only[coreS,Value.cells,Value.oneCell',Nat.reduceAdd,Nat.reduceSub,Nat.reduceMul,Nat.reduceLeDiff,Int.reduceEq,Nat.reduceEqDiff,Uo,YA,XA,Xg,YV,Zi,YtljjlhbbcjjmlaaGreatDoorRW3Fs9];refine zBD w3 ?_;obtain⟨h8,hh8⟩:∃h8,h8=h6.setIfInBounds (s2+1) (.deferred none):=⟨_,rfl⟩;have u8:Upd h6 h8 (s2+1):=by rw[hh8];exact Upd.set
   have v1:=u8.get w1 (by omega);have v2:=u8.get w2 (by omega);rw[<-hh8];simp only[v1,v2,coreS,Value.cells,Value.oneCell',Nat.reduceAdd,Nat.reduceSub,Nat.reduceMul,Nat.reduceLeDiff,Int.reduceEq,Nat.reduceEqDiff,Uo,YA,XA,Xg,YV,Zi,YtljjlhbbcjjmlaaGreatDoorRW3Fs9];exact⟨u8.ext w4 (by have:=y2.size;omega),w,rfl⟩
end Go.Proofs.YtljjlhbbcjjmlaaGreatDoor
