/- Walks: Concat of two lists, and rims turned. No condition. -/
import Derived.Test.YtljjlhbbcjjmlaaGreatDoorRW1
namespace Go.Proofs.YtljjlhbbcjjmlaaGreatDoor
open Go Go.Proofs Go.Eng Go.Run Tab RL
set_option maxRecDepth 100000
set_option linter.unusedSimpArgs false
set_option linter.unusedVariables false
set_option linter.defProp false
set_option maxHeartbeats 2000000
set_option linter.defProp false
def YtljjlhbbcjjmlaaGreatDoorRW2Fs8:=(And.intro (And.intro @by3 @inf3) (And.intro @sz3 (And.intro @zero3 @Tryz.underlying25)))
def YtljjlhbbcjjmlaaGreatDoorRW2Fs26:=(And.intro (And.intro (And.intro @agg25 (And.intro @by25 @by3)) (And.intro @fo60_1 (And.intro @fo64_0 @inf25))) (And.intro (And.intro @inf3 (And.intro @sz25 @sz3)) (And.intro @zero25 (And.intro @Tryz.underlying25 @Tryz.underlying137))))
def YtljjlhbbcjjmlaaGreatDoorRW2Fs64:=(And.intro (And.intro @agg25 (And.intro @by25 @inf25)) (And.intro @sz25 (And.intro @Tryz.underlying25 @Tryz.underlying137)))
theorem concat64 (b:Option Addr)(c:Nat)(a1:Option Addr)(n1 c1:Nat)(p:List Int)(a2:Option Addr)(n2 c2:Nat)(q:List Int)(h:Eng.Heap)(R:Row h b [.slice a1 n1 c1,.slice a2 n2 c2])(R1:eu h a1 n1 p)(R2:eu h a2 n2 q)(h1:0<n1)(hl:n1+n2<=900):
 ak Tryz.prog 64 #[.slice b 2 c] h (fun v h'=>(∃a cap,v= .slice a (n1+n2) cap/\eG h.size h' 3 a (n1+n2) cap (p++q))/\Ext h h'):=by
 have hc0:=R.cell (j:=0) (by simp);have hc1:=R.cell (j:=1) (by simp);have hsm:=R.isSome (by simp);simp only[List.getElem_cons_zero,List.getElem_cons_succ]at hc0 hc1
 (refine Rm Tryz.func64 rfl bod64 ?_;simp only[Tryz.ntmps64,Tryz.results64,coreS,U1,splice,Value.cells,Value.oneCell',Nat.reduceAdd,Nat.reduceSub,Nat.reduceMul,Nat.reduceLeDiff,Int.reduceEq,Nat.reduceEqDiff,YtljjlhbbcjjmlaaGreatDoorRW2Fs64])
 refine zAi [3,5,11,12,13,14,15,16,17,18,19,20,21,22] (fun e h'=>h'=h/\((e 11= .int .i64 0/\e 3= .int .i64 0)\/(e 11= .int .i64 1/\e 3= .int .i64 n1)\/(e 11= .int .i64 2/\e 3= .int .i64 ((n1+n2:Nat):Int)))) (fun e _=>match e 11 with| .int _ q=>2-q.toNat|_=>0) ⟨rfl,.inl ⟨rfl,rfl⟩⟩ ?_;rintro e h' ⟨rfl,⟨he,he3⟩|⟨he,he3⟩|⟨he,he3⟩⟩
 .have t0:(0:Int)<((2:Nat):Int):=by decide
  have t1:¬(0:Int)+(n1:Nat)<0:=by omega
  have t2:((0:Int)).toNat=0:=rfl;simp only[he,he3,t0,t1,t2,hc0,decide_true,decide_false,coreS,Value.cells,Value.oneCell',Nat.reduceAdd,Nat.reduceSub,Nat.reduceMul,Nat.reduceLeDiff,Int.reduceEq,Nat.reduceEqDiff,YtljjlhbbcjjmlaaGreatDoorRW2Fs64];refine⟨by omega,hsm,by rw[zBS];omega,by rw[zBS];omega,Zr (by kernel_rfl) ⟨rfl,.inr (.inl ⟨rfl,?_⟩)⟩ ?_⟩
  .show Value.int .i64 (0+(n1:Int))=_;rw[Int.zero_add]
  .show 2-(0+1:Int).toNat<2-(0:Int).toNat;decide
 .have t0:(1:Int)<((2:Nat):Int):=by decide
  have t1:¬((n1:Nat):Int)+(n2:Nat)<0:=by omega
  have t2:((1:Int)).toNat=1:=rfl;simp only[he,he3,t0,t1,t2,hc1,decide_true,decide_false,coreS,Value.cells,Value.oneCell',Nat.reduceAdd,Nat.reduceSub,Nat.reduceMul,Nat.reduceLeDiff,Int.reduceEq,Nat.reduceEqDiff,YtljjlhbbcjjmlaaGreatDoorRW2Fs64];refine⟨by omega,hsm,by rw[zBS];omega,by rw[zBS];omega,Zr (by kernel_rfl) ⟨rfl,.inr (.inr ⟨rfl,?_⟩)⟩ ?_⟩
  .show Value.int .i64 ((n1:Int)+(n2:Int))=_;congr 1
  .show 2-(1+1:Int).toNat<2-(1:Int).toNat;decide
 have t0:¬(2:Int)<((2:Nat):Int):=by decide
 simp only[he,he3,t0,decide_false,coreS,Value.cells,Value.oneCell',Nat.reduceAdd,Nat.reduceSub,Nat.reduceMul,Nat.reduceLeDiff,Int.reduceEq,Nat.reduceEqDiff,YtljjlhbbcjjmlaaGreatDoorRW2Fs64];refine ak.mono (grow119 (n1+n2) (by omega) (by omega) h') ?_;rintro v h1' ⟨⟨a3,c3,rfl,O3⟩,x3⟩;have s3:=x3.size;simp only[coreS,Value.cells,Value.oneCell',Nat.reduceAdd,Nat.reduceSub,Nat.reduceMul,Nat.reduceLeDiff,Int.reduceEq,Nat.reduceEqDiff,YtljjlhbbcjjmlaaGreatDoorRW2Fs64];refine zAi [6,8,27,28,29,30,31,32,33,34] (fun e h''=>Ext h' h''/\((e 27= .int .i64 0/\∃a4 c4,e 6= .slice a4 0 c4/\eG h'.size h'' 3 a4 0 c4 [])\/(e 27= .int .i64 1/\∃a4 c4,e 6= .slice a4 n1 c4/\eG h'.size h'' 3 a4 n1 c4 p)\/(e 27= .int .i64 2/\∃a4 c4,e 6= .slice a4 (n1+n2) c4/\eG h'.size h'' 3 a4 (n1+n2) c4 (p++q)))) (fun e _=>match e 27 with| .int _ q=>2-q.toNat|_=>0) ⟨x3,.inl ⟨rfl,a3,c3,rfl,O3⟩⟩ ?_;rintro e4 h4 ⟨x4,⟨he4,a4,c4,he6,O4⟩|⟨he4,a4,c4,he6,O4⟩|⟨he4,a4,c4,he6,O4⟩⟩
 .have u0:(0:Int)<((2:Nat):Int):=by decide
  have u2:((0:Int)).toNat=0:=rfl;have d0:=(R.ext x4).cell (j:=0) (by simp);simp only[List.getElem_cons_zero]at d0;simp only[he4,he6,u0,u2,d0,decide_true,coreS,Value.cells,Value.oneCell',Nat.reduceAdd,Nat.reduceSub,Nat.reduceMul,Nat.reduceLeDiff,Int.reduceEq,Nat.reduceEqDiff,YtljjlhbbcjjmlaaGreatDoorRW2Fs64];refine⟨by omega,hsm,?_⟩;refine app25 (m0:=h'.size) (len:=0) (xs:=[]) rfl rfl O4 x4.size (R1.ext x4) (by omega) fun a5 c5 h5 O5 A5=> ?_
  rw[Nat.zero_add,List.nil_append]at O5;rw[Nat.zero_add];simp only[he4,coreS,Value.cells,Value.oneCell',Nat.reduceAdd,Nat.reduceSub,Nat.reduceMul,Nat.reduceLeDiff,Int.reduceEq,Nat.reduceEqDiff,YtljjlhbbcjjmlaaGreatDoorRW2Fs64];refine⟨by rw[zBS];omega,Zr (by kernel_rfl) ⟨A5.extN O4 x4 (Nat.le_refl _),.inr (.inl ⟨rfl,a5,c5,rfl,O5⟩)⟩ ?_⟩;show 2-(0+1:Int).toNat<2-(0:Int).toNat;decide
 .have u0:(1:Int)<((2:Nat):Int):=by decide
  have u2:((1:Int)).toNat=1:=rfl;have d1:=(R.ext x4).cell (j:=1) (by simp);simp only[List.getElem_cons_zero,List.getElem_cons_succ]at d1;simp only[he4,he6,u0,u2,d1,decide_true,coreS,Value.cells,Value.oneCell',Nat.reduceAdd,Nat.reduceSub,Nat.reduceMul,Nat.reduceLeDiff,Int.reduceEq,Nat.reduceEqDiff,YtljjlhbbcjjmlaaGreatDoorRW2Fs64];refine⟨by omega,hsm,?_⟩;refine app25 (m0:=h'.size) (len:=n1) (xs:=p) rfl rfl O4 x4.size (R2.ext x4) (by omega) fun a5 c5 h5 O5 A5=> ?_
  simp only[he4,coreS,Value.cells,Value.oneCell',Nat.reduceAdd,Nat.reduceSub,Nat.reduceMul,Nat.reduceLeDiff,Int.reduceEq,Nat.reduceEqDiff,YtljjlhbbcjjmlaaGreatDoorRW2Fs64];refine⟨by rw[zBS];omega,Zr (by kernel_rfl) ⟨A5.extN O4 x4 (Nat.le_refl _),.inr (.inr ⟨rfl,a5,c5,rfl,O5⟩)⟩ ?_⟩;show 2-(1+1:Int).toNat<2-(1:Int).toNat;decide
 .have u0:¬(2:Int)<((2:Nat):Int):=by decide
  simp only[he4,he6,u0,decide_false,coreS,Value.cells,Value.oneCell',Nat.reduceAdd,Nat.reduceSub,Nat.reduceMul,Nat.reduceLeDiff,Int.reduceEq,Nat.reduceEqDiff,YtljjlhbbcjjmlaaGreatDoorRW2Fs64];exact⟨⟨a4,c4,rfl,O4⟩,x4⟩
theorem turned26 (b:Nat)(k:Int)(a:Option Addr)(n c m:Nat)(xs:List Int)(h:Eng.Heap)(H:Rd h b k a n c xs)(R:Rim k xs)(hm:m<n):
 ak Tryz.prog 26 #[.pointer (some ⟨b,0,none⟩),.int .i64 m] h (fun v h'=>Ext h h'/\GM h.size h' 3 v (rotL xs m)):=by
 have hn:=H.row.len;have hL:=R.len;have hb:=H.cells
 (refine Rm Tryz.func26 rfl bod26 ?_;simp only[Tryz.ntmps26,Tryz.results26,coreS,U1,splice,Value.cells,Value.oneCell',Nat.reduceAdd,Nat.reduceSub,Nat.reduceMul,Nat.reduceLeDiff,Int.reduceEq,Nat.reduceEqDiff,YtljjlhbbcjjmlaaGreatDoorRW2Fs26])
 refine zB9 (by kernel_rfl) zBp [(0,0),(1,0),(2,0),(3,0),(4,0),(5,0),(6,0),(7,0),(8,0),(9,0),(10,0),(11,0),(12,0),(13,0),(14,1),(15,1),(16,0)] (by kernel_rfl) rfl (by kernel_rfl) ?_;simp only[hb,rdC,coreS,U1,splice,Value.cells,Value.oneCell',Nat.reduceAdd,Nat.reduceSub,Nat.reduceMul,Nat.reduceLeDiff,Int.reduceEq,Nat.reduceEqDiff,drawS,YtljjlhbbcjjmlaaGreatDoorRW2Fs26];have e1:((n:Int)-(m:Int)).toNat=n-m:=by omega
 have e2:((m:Int)-((0:Nat):Int)).toNat=m:=by omega
 have e3:((c:Int)-(m:Int)).toNat=c-m:=by omega
 have e4:((c:Int)-((0:Nat):Int)).toNat=c:=by omega
 have e5:(if(c:Int)=((0:Nat):Int)then a else lg a 0)=a:=by rw[eltP_zero];split<;>rfl
 simp only[e1,e2,e3,e4,e5,List.length_cons,List.length_nil,coreS,U1,splice,Value.cells,Value.oneCell',Nat.reduceAdd,Nat.reduceSub,Nat.reduceMul,Nat.reduceLeDiff,Int.reduceEq,Nat.reduceEqDiff,drawS,YtljjlhbbcjjmlaaGreatDoorRW2Fs26];have I1:=XU (c:=c) (H.row.push (.cells #[.slice (if(c:Int)=(m:Int)then a else lg a m) (n-m) (c-m),.slice a m c] 25)) (show m<=n by omega) (Nat.le_refl n) H.cap;have I2:=intsV_take (H.row.push (.cells #[.slice (if(c:Int)=(m:Int)then a else lg a m) (n-m) (c-m),.slice a m c] 25)) m (by omega);have hc:=H.cap
 repeat (refine And.intro (by first|omega|(rw[zBS];omega)|rfl|assumption) ?_)
 refine ak.mono (concat64 _ 2 _ _ _ _ _ _ _ _ _ (Row.block jD) I1 I2 (by omega) (by omega)) ?_;rintro v h1 ⟨⟨a3,c3,rfl,O3⟩,x3⟩;simp only[Ye,coreS,Value.cells,Value.oneCell',Nat.reduceAdd,Nat.reduceSub,Nat.reduceMul,Nat.reduceLeDiff,Int.reduceEq,Nat.reduceEqDiff,drawS,YtljjlhbbcjjmlaaGreatDoorRW2Fs26];have e6:(xs.drop m).take (n-m)++xs.take m=rotL xs m:=by rw[List.take_of_length_le (by simp;omega)];rfl
 rw[e6]at O3;have e7:n-m+m=(rotL xs m).length:=by rw[rotL_length _ _ (by omega)];omega
 rw[e7]at O3 ⊢;exact⟨x3.zBe,a3,c3,rfl,O3.mono (by simp)⟩
theorem turn8 (k:Int)(a:Option Addr)(n c m:Nat)(xs:List Int)(h:Eng.Heap)(hs:eu h a n xs)(hc:n<=c)(R:Rim k xs)(hm:m<n):
 ak Tryz.prog 8 #[.int .i64 k,.slice a n c,.int .i64 m] h (fun v h'=>Ext h h'/\∃a2 c2,v= .tuple #[.slice a2 n c2,.int .i64 0]/\n<=c2/\eu h' a2 n (rotL xs m)):=by
 have hn:=hs.len;have hL:=R.len
 (refine Rm Tryz.func8 rfl bod8 ?_;simp only[Tryz.ntmps8,Tryz.results8,coreS,U1,splice,Value.cells,Value.oneCell',Nat.reduceAdd,Nat.reduceSub,Nat.reduceMul,Nat.reduceLeDiff,Int.reduceEq,Nat.reduceEqDiff,YtljjlhbbcjjmlaaGreatDoorRW2Fs8])
 refine ak.mono (open24 k a n c xs h hs hc R) ?_;rintro v h1 ⟨b,rfl,H,x1⟩;simp only[coreS,Value.cells,Value.oneCell',Nat.reduceAdd,Nat.reduceSub,Nat.reduceMul,Nat.reduceLeDiff,Int.reduceEq,Nat.reduceEqDiff,YtljjlhbbcjjmlaaGreatDoorRW2Fs8];refine⟨by rw[zBS];omega,?_⟩;refine ak.mono (rwithin25 0 _ _ 1 1 [(m:Int)] _ intsV_one (by omega)) ?_;rintro v h2 ⟨rfl,x2⟩;have b2:inB 0 ((n:Int)-1) [(m:Int)]=true:=by simp[inB];omega
 replace x2:=x2.zBe
 simp only[b2,Bool.not_true,coreS,Value.cells,Value.oneCell',Nat.reduceAdd,Nat.reduceSub,Nat.reduceMul,Nat.reduceLeDiff,Int.reduceEq,Nat.reduceEqDiff,YtljjlhbbcjjmlaaGreatDoorRW2Fs8];refine ak.mono (turned26 b k a n c m xs h2 (H.ext x2) R hm) ?_;rintro v h3 ⟨x3,a3,c3,rfl,O3⟩;simp only[coreS,Value.cells,Value.oneCell',Nat.reduceAdd,Nat.reduceSub,Nat.reduceMul,Nat.reduceLeDiff,Int.reduceEq,Nat.reduceEqDiff,YtljjlhbbcjjmlaaGreatDoorRW2Fs8];have e7:(rotL xs m).length=n:=by rw[rotL_length _ _ (by omega)];omega
 rw[e7]at O3 ⊢;exact⟨(x1.trans x2).trans x3,a3,c3,rfl,O3.cap,O3.ints⟩
theorem isNaN181 (x:Int)(h:Eng.Heap):ak Tryz.prog 181 #[.int .i64 x] h (fun v h'=>v= .bool false/\h'=h):=by
 (refine Rm Tryz.func181 rfl bod181 ?_;simp only[Tryz.ntmps181,Tryz.results181,coreS,U1,splice,Value.cells,Value.oneCell',Nat.reduceAdd,Nat.reduceSub,Nat.reduceMul,Nat.reduceLeDiff,Int.reduceEq,Nat.reduceEqDiff])
 simp
theorem cmp120 (x y:Int)(h:Eng.Heap):ak Tryz.prog 120 #[.int .i64 x,.int .i64 y] h (fun v h'=>v= .int .i64 (if x<y then-1 else if y<x then 1 else 0)/\h'=h):=by
 (refine Rm Tryz.func120 rfl bod120 ?_;simp only[Tryz.ntmps120,Tryz.results120,coreS,U1,splice,Value.cells,Value.oneCell',Nat.reduceAdd,Nat.reduceSub,Nat.reduceMul,Nat.reduceLeDiff,Int.reduceEq,Nat.reduceEqDiff])
 refine ak.mono (isNaN181 x h) ?_;rintro v h1 ⟨rfl,rfl⟩;simp only[coreS,Value.cells,Value.oneCell',Nat.reduceAdd,Nat.reduceSub,Nat.reduceMul,Nat.reduceLeDiff,Int.reduceEq,Nat.reduceEqDiff];refine ak.mono (isNaN181 y h1) ?_;rintro v h2 ⟨rfl,rfl⟩;simp only[coreS,Value.cells,Value.oneCell',Nat.reduceAdd,Nat.reduceSub,Nat.reduceMul,Nat.reduceLeDiff,Int.reduceEq,Nat.reduceEqDiff];refine⟨fun h1=> ?_,fun h1=>⟨fun h2=> ?_,fun h2=> ?_⟩⟩
 .rw[if_pos h1]
 .rw[if_neg h1,if_pos h2]
 .rw[if_neg h1,if_neg h2]
end Go.Proofs.YtljjlhbbcjjmlaaGreatDoor
