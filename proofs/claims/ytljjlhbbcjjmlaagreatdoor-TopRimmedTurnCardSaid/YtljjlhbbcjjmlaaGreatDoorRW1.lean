/- Walks: within, CheckRim, newReader, open, turned of the rim; Concat of two lists. No condition. -/
import Derived.Test.YtljjlhbbcjjmlaaGreatDoorTO
import Derived.Test.YtljjlhbbcjjmlaaGreatDoorRL
import Derived.Test.YtljjlhbbcjjmlaaGreatDoorEngA
import Derived.Test.YtljjlhbbcjjmlaaGreatDoorEngM
import Derived.Test.YtljjlhbbcjjmlaaGreatDoorEngI
import Derived.Test.YtljjlhbbcjjmlaaGreatDoorEngK
namespace Go.Proofs.YtljjlhbbcjjmlaaGreatDoor
open Go Go.Proofs Go.Eng Go.Run Tab RL
section
variable {K:Value->Eng.Heap->Prop}{a:Option Addr}{c:Nat}{h:Eng.Heap}{j:Nat}{k:Int}{n:Nat}{ty:TypeId}{x:Operand}{xs:List Int}
set_option maxRecDepth 100000
set_option linter.unusedSimpArgs false
set_option linter.unusedVariables false
set_option linter.defProp false
set_option maxHeartbeats 1000000
set_option linter.defProp false
def YtljjlhbbcjjmlaaGreatDoorRW1Fs60:=(And.intro (And.intro @by3 @inf3) (And.intro @sz3 (And.intro @zero3 @Tryz.underlying25)))
def YtljjlhbbcjjmlaaGreatDoorRW1Fs61:=(And.intro (And.intro (And.intro (And.intro @agg25 @agg3) (And.intro @by3 @fo60_1)) (And.intro (And.intro @fo64_0 @fo64_1) (And.intro @fps60_0 (And.intro @fps60_1 @fps64_0)))) (And.intro (And.intro (And.intro @inf25 @inf3) (And.intro @okf60 (And.intro @okf64 @sz25))) (And.intro (And.intro @sz3 @zero60) (And.intro @zero64 (And.intro @Tryz.underlying25 @Tryz.underlying62)))))
def YtljjlhbbcjjmlaaGreatDoorRW1Fs63:=(And.intro @agg3 (And.intro @inf3 @sz3))
def YtljjlhbbcjjmlaaGreatDoorRW1Fs119:=(And.intro (And.intro @by3 @inf3) (And.intro @sz3 @Tryz.underlying25))
theorem rwithin63 (n lo hi:Int)(p q:Nat)(h:Eng.Heap)(hp:h[p]? =some (.cells #[.int .i64 lo] 3))(hq:h[q]? =some (.cells #[.int .i64 hi] 3)):
 ak Tryz.prog 63 (#[]++ #[.int .i64 n]++ #[.pointer (some ⟨p,0,none⟩),.pointer (some ⟨q,0,none⟩)]) h (fun v h'=>v= .bool (decide (n<lo)||decide (hi<n))/\Ext h h'):=by
 simp only[Array.append_empty,Array.empty_append,List.append_toArray,List.cons_append,List.nil_append]
 (refine Rm Tryz.func63 rfl bod63 ?_;simp only[Tryz.ntmps63,Tryz.results63,coreS,U1,splice,Value.cells,Value.oneCell',Nat.reduceAdd,Nat.reduceSub,Nat.reduceMul,Nat.reduceLeDiff,Int.reduceEq,Nat.reduceEqDiff,YtljjlhbbcjjmlaaGreatDoorRW1Fs63])
 simp only[hp,hq,coreS,U1,splice,Value.cells,Value.oneCell',Nat.reduceAdd,Nat.reduceSub,Nat.reduceMul,Nat.reduceLeDiff,Int.reduceEq,Nat.reduceEqDiff,YtljjlhbbcjjmlaaGreatDoorRW1Fs63];constructor
 .intro h1;simp[h1,Ext.refl]
 .intro h1;simp[h1,Ext.refl]
theorem rwithin25 (lo hi:Int)(a:Option Addr)(n c:Nat)(xs:List Int)(h:Eng.Heap)(hs:eu h a n xs)(hl:n<=1000000):
 ak Tryz.prog 25 #[.int .i64 lo,.int .i64 hi,.slice a n c] h (fun v h'=>v= .bool (inB lo hi xs)/\Ext h h'):=by
 (refine Rm Tryz.func25 rfl bod25 ?_;simp only[Tryz.ntmps25,Tryz.results25,coreS,U1,splice,Value.cells,Value.oneCell',Nat.reduceAdd,Nat.reduceSub,Nat.reduceMul,Nat.reduceLeDiff,Int.reduceEq,Nat.reduceEqDiff])
 refine ak.mono (containsFunc86 a n c xs 63 _ (fun x=>decide (x<lo)||decide (hi<x)) _ ((hs.push _).push _) hl ?_) ?_
 .intro x _ h' hx;exact rwithin63 x lo hi _ _ h' (hx.get (by simp only[uo,Rh,Nat.left_eq_add,Nat.succ_ne_self,if_false,if_true])) (hx.get (by simp only[uo,Rh,if_true]))
 .rintro v h2 ⟨rfl,hx⟩;simp only[coreS,Value.cells,Value.oneCell',Nat.reduceAdd,Nat.reduceSub,Nat.reduceMul,Nat.reduceLeDiff,Int.reduceEq,Nat.reduceEqDiff];refine⟨?_,hx.zBe.zBe⟩;congr 1;simp only[inB,List.not_any_eq_all_not];congr 1;funext x;by_cases h1:x<lo<;>by_cases h2:hi<x<;>simp[h1,h2,Int.not_lt.1,Int.not_le]<;>omega
structure Rim (k:Int)(xs:List Int):Prop where
 kinds:1<=k/\k<=4
 len:1<=xs.length/\xs.length<=64
 all:∀x∈xs,0<=x/\x<=k-1
theorem Rim.allB (R:Rim k xs):inB 0 (k-1) xs=true:=by
 simp only[inB,List.all_eq_true,Bool.and_eq_true,decide_eq_true_eq];exact R.all
theorem Rim.get (R:Rim k xs){i:Nat}(hi:i<xs.length):0<=xs.getD i 0/\xs.getD i 0<=k-1:=by
 refine R.all _ ?_;simp[List.getD,List.getElem?_eq_getElem hi]
theorem checkRim60 (k:Int)(a:Option Addr)(n c:Nat)(xs:List Int)(h:Eng.Heap)(hs:eu h a n xs)(R:Rim k xs):
 ak Tryz.prog 60 #[.int .i64 k,.slice a n c] h (fun v h'=>v= .int .i64 0/\Ext h h'):=by
 have hn:=hs.len;have hk:=R.kinds;have hL:=R.len
 (refine Rm Tryz.func60 rfl bod60 ?_;simp only[Tryz.ntmps60,Tryz.results60,coreS,U1,splice,Value.cells,Value.oneCell',Nat.reduceAdd,Nat.reduceSub,Nat.reduceMul,Nat.reduceLeDiff,Int.reduceEq,Nat.reduceEqDiff,YtljjlhbbcjjmlaaGreatDoorRW1Fs60])
 refine ak.mono (rwithin25 1 4 _ _ _ [k] _ intsV_one (by omega)) ?_;rintro v h1 ⟨rfl,x1⟩;have b1:inB 1 4 [k]=true:=by simp[inB];omega
 replace x1:=x1.zBe
 simp only[b1,Bool.not_true,coreS,Value.cells,Value.oneCell',Nat.reduceAdd,Nat.reduceSub,Nat.reduceMul,Nat.reduceLeDiff,Int.reduceEq,Nat.reduceEqDiff,YtljjlhbbcjjmlaaGreatDoorRW1Fs60];refine ak.mono (rwithin25 1 64 _ _ _ [(n:Int)] _ intsV_one (by omega)) ?_;rintro v h2 ⟨rfl,x2⟩;have b2:inB 1 64 [(n:Int)]=true:=by simp[inB];omega
 replace x2:=x2.zBe
 simp only[b2,Bool.not_true,coreS,Value.cells,Value.oneCell',Nat.reduceAdd,Nat.reduceSub,Nat.reduceMul,Nat.reduceLeDiff,Int.reduceEq,Nat.reduceEqDiff,YtljjlhbbcjjmlaaGreatDoorRW1Fs60];refine⟨by rw[zBS];omega,?_⟩;refine ak.mono (rwithin25 0 (k-1) a n c xs _ (hs.ext (x1.trans x2)) (by omega)) ?_;rintro v h3 ⟨rfl,x3⟩;simp only[R.allB,Bool.not_true,coreS,Value.cells,Value.oneCell',Nat.reduceAdd,Nat.reduceSub,Nat.reduceMul,Nat.reduceLeDiff,Int.reduceEq,Nat.reduceEqDiff,YtljjlhbbcjjmlaaGreatDoorRW1Fs60];exact(x1.trans x2).trans x3
def rdC (k:Int)(a:Option Addr)(n c:Nat)(o:List Int):List Value:= .int .i64 k:: .slice a n c::ints o
def cntL (xs:List Int):List Int:=[((xs.count 0:Nat):Int),((xs.count 1:Nat):Int),((xs.count 2:Nat):Int),((xs.count 3:Nat):Int)]
theorem cntL_length (xs:List Int):(cntL xs).length=4:=rfl
theorem cntL_get (hj:j<4):(cntL xs).getD j 0=((xs.count (j:Int):Nat):Int):=by
 rcases(by omega:j=0\/j=1\/j=2\/j=3)with rfl|rfl|rfl|rfl<;>rfl
theorem cntL_next (hj:j<4):(cntL xs).set j ((cntL xs).getD j 0+1)=cntL (xs++[(j:Int)]):=by
 rcases(by omega:j=0\/j=1\/j=2\/j=3)with rfl|rfl|rfl|rfl<;>simp[cntL,List.count_append,List.count_singleton]
theorem take_nextI {i:Nat}(hi:i<xs.length):xs.take (i+1)=xs.take i++[xs.getD i 0]:=by
 rw[List.take_add_one,List.getElem?_eq_getElem hi];simp[List.getD,List.getElem?_eq_getElem hi]
theorem rdC_at {o:List Int}(hj:j<o.length):(rdC k a n c o)[2+j]? =some (.int .i64 (o.getD j 0)):=by
 rw[Nat.add_comm,rdC,List.getElem?_cons_succ,List.getElem?_cons_succ,Cn _ _ hj]
theorem rdC_set {o:List Int}{v:Int}(hj:j<o.length):splice (rdC k a n c o) (2+j) [.int .i64 v]=rdC k a n c (o.set j v):=by
 rw[MN _ _ _ (by simp[rdC,aR];omega),Nat.add_comm,rdC,List.set_cons_succ,List.set_cons_succ,ints_set];rfl
structure Rd (h:Eng.Heap)(b:Nat)(k:Int)(a:Option Addr)(n c:Nat)(xs:List Int):Prop where
 cells:h[b]? =some (.cells (rdC k a n c (cntL xs)).toArray 64)
 row:eu h a n xs
 cap:n<=c
theorem Rd.ext {h':Eng.Heap}{b:Nat}(H:Rd h b k a n c xs)(x:Ext h h'):Rd h' b k a n c xs:=⟨x.get H.cells,H.row.ext x,H.cap⟩
theorem clr25 {er:Env}{ct:TypeId}{g off:Nat}{cur:List Value}(hx:ev er x= .slice (some ⟨g,off,none⟩) n c)(hb:h[g]? =some (.cells cur.toArray ct (0,0)))(hl:off+n<=cur.length)(H:∀h',h'[g]? =some (.cells (splice cur off (List.replicate n (.int .i64 0))).toArray ct (0,0))->Upd h h' g->K (.tuple #[]) h'):aI Tryz.prog (.call ⟨.builtin .clear,#[x],#[25]⟩) ty er h K:=
 Xl Tryz.underlying25 zero3 hx hb hl H
theorem newReader61 (k:Int)(a:Option Addr)(n c:Nat)(xs:List Int)(h:Eng.Heap)(hs:eu h a n xs)(hc:n<=c)(R:Rim k xs):
 ak Tryz.prog 61 #[.int .i64 k,.slice a n c] h (fun v h'=>∃b,v= .pointer (some ⟨b,0,none⟩)/\Rd h' b k a n c xs/\Ext h h'):=by
 have hn:=hs.len;have hk:=R.kinds;have hL:=R.len
 (refine Rm Tryz.func61 rfl bod61 ?_;simp only[Tryz.ntmps61,Tryz.results61,coreS,U1,splice,Value.cells,Value.oneCell',Nat.reduceAdd,Nat.reduceSub,Nat.reduceMul,Nat.reduceLeDiff,Int.reduceEq,Nat.reduceEqDiff,YtljjlhbbcjjmlaaGreatDoorRW1Fs61])
 refine⟨by omega,by omega,by omega,by omega,?_⟩;refine clr25 (cur:=rdC k a n c [0,0,0,0]) rfl jD (by simp[rdC,ints]) fun h1 g1 u1=> ?_
 have x1:Ext h h1:=u1.ext ((Ext.refl h).push _) (by omega)
 replace g1:h1[h.size]? =some (.cells (rdC k a n c (cntL (xs.take 0))).toArray 64):=g1
 simp only[g1,rdC,coreS,Value.cells,Value.oneCell',Nat.reduceAdd,Nat.reduceSub,Nat.reduceMul,Nat.reduceLeDiff,Int.reduceEq,Nat.reduceEqDiff,YtljjlhbbcjjmlaaGreatDoorRW1Fs61];refine zAi [7,23,24,25,26,27,28,29,30,31,32,33,34,35,36,37] (fun g h'=>∃i:Nat,i<=n/\g 23= .int .i64 i/\h'[h.size]? =some (.cells (rdC k a n c (cntL (xs.take i))).toArray 64)/\Ext h h') (fun g _=>match g 23 with| .int _ m=>n-m.toNat|_=>0) ⟨0,by omega,rfl,g1,x1⟩ ?_;rintro g h' ⟨i,hi,hg,hb,x⟩;simp only[hg,coreS,Value.cells,Value.oneCell',Nat.reduceAdd,Nat.reduceSub,Nat.reduceMul,Nat.reduceLeDiff,Int.reduceEq,Nat.reduceEqDiff,YtljjlhbbcjjmlaaGreatDoorRW1Fs61];refine⟨fun hlt=> ?_,fun hge=> ?_⟩
 .have hil:i<xs.length:=by omega
  have hr:=R.get hil;obtain⟨j,hj⟩:∃j:Nat,xs.getD i 0=(j:Int):=⟨(xs.getD i 0).toNat,by omega⟩;have hj4:j<4:=by omega
  simp only[(hs.ext x).cell hil,hj,coreS,Value.cells,Value.oneCell',Nat.reduceAdd,Nat.reduceSub,Nat.reduceMul,Nat.reduceLeDiff,Int.reduceEq,Nat.reduceEqDiff,YtljjlhbbcjjmlaaGreatDoorRW1Fs61]
  repeat (refine And.intro (by first|omega|(rw[zBS];omega)|rfl|assumption|(exact(hs.ext x).isSome (by omega))) ?_)
  refine zB9 (by kernel_rfl) zBp [(0,0),(1,0),(2,0),(3,0),(4,0),(5,0),(6,0),(7,0),(8,0),(9,0),(10,1)] (by kernel_rfl) rfl (by kernel_rfl) ?_;simp only[hb,coreS,Value.cells,Value.oneCell',Nat.reduceAdd,Nat.reduceSub,Nat.reduceMul,Nat.reduceLeDiff,Int.reduceEq,Nat.reduceEqDiff,drawS,YtljjlhbbcjjmlaaGreatDoorRW1Fs61];refine⟨by omega,?_⟩;rw[rdC_at (by rw[cntL_length];exact hj4)];simp only[hb,coreS,Value.cells,Value.oneCell',Nat.reduceAdd,Nat.reduceSub,Nat.reduceMul,Nat.reduceLeDiff,Int.reduceEq,Nat.reduceEqDiff,drawS,YtljjlhbbcjjmlaaGreatDoorRW1Fs61];have hcn:(cntL (xs.take i)).getD j 0<=64/\0<=(cntL (xs.take i)).getD j 0:=by
   rw[cntL_get hj4];have:=List.count_le_length (a:=(j:Int)) (l:=xs.take i);have h2:(xs.take i).length<=i:=List.length_take_le i xs;omega
  refine⟨by rw[zBS];omega,by omega,?_⟩;refine Oy hb (by simp[rdC,aR,cntL_length];omega) fun h3 g3 u3=> ?_
  rw[rdC_set (by rw[cntL_length];exact hj4),cntL_next hj4,<-hj,<-take_nextI hil]at g3;simp only[Ye,coreS,Value.cells,Value.oneCell',Nat.reduceAdd,Nat.reduceSub,Nat.reduceMul,Nat.reduceLeDiff,Int.reduceEq,Nat.reduceEqDiff,drawS,YtljjlhbbcjjmlaaGreatDoorRW1Fs61];refine⟨by rw[zBS];omega,Zr (by kernel_rfl) ⟨i+1,by omega,rfl,g3,u3.ext x (by omega)⟩ ?_⟩;show n-((i:Int)+1).toNat<n-(i:Int).toNat;omega
 .have:i=n:=by omega
  subst this;rw[List.take_of_length_le (by omega)]at hb;exact⟨h.size,rfl,⟨hb,hs.ext x,hc⟩,x⟩
theorem open24 (k:Int)(a:Option Addr)(n c:Nat)(xs:List Int)(h:Eng.Heap)(hs:eu h a n xs)(hc:n<=c)(R:Rim k xs):
 ak Tryz.prog 24 #[.int .i64 k,.slice a n c] h (fun v h'=>∃b,v= .tuple #[.pointer (some ⟨b,0,none⟩),.int .i64 0]/\Rd h' b k a n c xs/\Ext h h'):=by
 (refine Rm Tryz.func24 rfl bod24 ?_;simp only[Tryz.ntmps24,Tryz.results24,coreS,U1,splice,Value.cells,Value.oneCell',Nat.reduceAdd,Nat.reduceSub,Nat.reduceMul,Nat.reduceLeDiff,Int.reduceEq,Nat.reduceEqDiff])
 refine ak.mono (checkRim60 k a n c xs h hs R) ?_;rintro v h1 ⟨rfl,x1⟩;simp only[coreS,Value.cells,Value.oneCell',Nat.reduceAdd,Nat.reduceSub,Nat.reduceMul,Nat.reduceLeDiff,Int.reduceEq,Nat.reduceEqDiff];refine ak.mono (newReader61 k a n c xs h1 (hs.ext x1) hc R) ?_;rintro v h2 ⟨b,rfl,R2,x2⟩;simp only[coreS,Value.cells,Value.oneCell',Nat.reduceAdd,Nat.reduceSub,Nat.reduceMul,Nat.reduceLeDiff,Int.reduceEq,Nat.reduceEqDiff];exact⟨b,rfl,R2,x1.trans x2⟩
def hdV (a:Option Addr)(n c:Nat):Value:= .slice a n c
theorem app25 {er:Env}{m0:Nat}{y:Operand}{b:Option Addr}{len cap m:Nat}{ys:List Int}(hx:ev er x= .slice a len cap)(hy:ev er y= .slice b m c)(O:eG m0 h 3 a len cap xs)(h0h:m0<=h.size)(I:eu h b m ys)(hb:len+m<=100000)(H:∀a' cap' h',eG m0 h' 3 a' (len+m) cap' (xs++ys)->App h h' a a'->K (.slice a' (len+m) cap') h'):aI Tryz.prog (.call ⟨.builtin .append,#[x,y],#[25,25]⟩) ty er h K:=app22 hx hy O h0h I hb H
theorem bltR_cap {vs:List Value}{u:Option TypeDesc}{F:Prop}:lZ .cap vs u h K F=F:=by
 unfold lZ;split<;>first|rfl|(rename_i hh;cases hh)|simp_all
theorem capR {e:Env}{t el:TypeId}(hu:Tryz.prog.underlying t=some (.slice el))(hx:ev e x= .slice a n c)(H:K (.int .i64 c) h):aI Tryz.prog (.call ⟨.builtin .cap,#[x],#[t]⟩) ty e h K:=
 aK rfl _ H fun w _=>by simp[execOp,resolve,invoke,builtin,hx,Builtin.cap_,goInt,run_underlying hu]
theorem grow119 (k:Nat)(hk:0<k)(hk2:k<=1000)(h:Eng.Heap):ak Tryz.prog 119 #[.slice none 0 0,.int .i64 k] h (fun v h'=>(∃a cap,v= .slice a 0 cap/\eG h.size h' 3 a 0 cap [])/\Ext h h'):=by
 have h0:¬((k:Nat):Int)<0:=by omega
 have h1:(0:Int)<((k:Nat):Int):=by omega
 have h2:(k:Int)-0=(k:Nat):=by omega
 (refine Rm Tryz.func119 rfl bod119 ?_;simp only[Tryz.ntmps119,Tryz.results119,coreS,U1,splice,Value.cells,Value.oneCell',Nat.reduceAdd,Nat.reduceSub,Nat.reduceMul,Nat.reduceLeDiff,Int.reduceEq,Nat.reduceEqDiff,YtljjlhbbcjjmlaaGreatDoorRW1Fs119])
 simp only[h0,h1,h2,decide_true,decide_false,coreS,Value.cells,Value.oneCell',Nat.reduceAdd,Nat.reduceSub,Nat.reduceMul,Nat.reduceLeDiff,Int.reduceEq,Nat.reduceEqDiff,YtljjlhbbcjjmlaaGreatDoorRW1Fs119];rw[bltR_cap];refine capR Tryz.underlying25 rfl ?_;have h3:(((0:Nat):Int)-((0:Nat):Int))=0:=rfl;have h4:((0:Nat):Int)=0:=rfl;simp only[h3,h2,h1,decide_true,coreS,Value.cells,Value.oneCell',Nat.reduceAdd,Nat.reduceSub,Nat.reduceMul,Nat.reduceLeDiff,Int.reduceEq,Nat.reduceEqDiff,YtljjlhbbcjjmlaaGreatDoorRW1Fs119];refine⟨by rw[zBS];omega,by rw[zBS];omega,?_⟩;rw[bltR_cap];refine capR Tryz.underlying25 rfl ?_;simp only[h3,h4,h2,h1,decide_true,coreS,Value.cells,Value.oneCell',Nat.reduceAdd,Nat.reduceSub,Nat.reduceMul,Nat.reduceLeDiff,Int.reduceEq,Nat.reduceEqDiff,YtljjlhbbcjjmlaaGreatDoorRW1Fs119];refine⟨by omega,by omega,by omega,by omega,?_⟩;refine Un (h0:=h.size) (s:=1) (len:=0) (cap:=0) (k:=k) (olds:=[]) Tryz.underlying25 Tryz.underlying3 inf3 sz3 zero3 rfl (by omega) rfl rfl (.inl rfl) rfl hk (by omega) (by omega) (by rw[by3];omega) (Nat.le_refl _) fun c2 h2' zs hz O x=> ?_
 have hcap:=O.cap;simp only[h3,h4,coreS,Value.cells,Value.oneCell',Nat.reduceAdd,Nat.reduceSub,Nat.reduceMul,Nat.reduceLeDiff,Int.reduceEq,Nat.reduceEqDiff,YtljjlhbbcjjmlaaGreatDoorRW1Fs119];refine⟨by omega,by omega,by omega,by omega,⟨some ⟨h.size,0,none⟩,c2,by simp,?_⟩,x⟩;rcases O.ok with⟨e,_⟩|⟨g,cur,e,o1,o2,o3,o4,o5⟩
 .cases e
 .exact⟨by simp,.inr ⟨g,cur,e,o1,o2,by omega,by omega,by simp[ints]⟩⟩
end
end Go.Proofs.YtljjlhbbcjjmlaaGreatDoor
