/- Walks: turn.Order, and what it calls. No condition. -/
import Derived.Test.YtljjlhbbcjjmlaaGreatDoorOk
import Derived.Test.YtljjlhbbcjjmlaaGreatDoorTab
import Derived.Test.YtljjlhbbcjjmlaaGreatDoorEngF
import Derived.Test.YtljjlhbbcjjmlaaGreatDoorEngA
namespace Go.Proofs.YtljjlhbbcjjmlaaGreatDoor
open Go Go.Proofs Go.Eng Go.Run Tab
section
variable {L:List Nat}{a b c:Nat}{gone:List Int}{h h' h'':Heap}{i k m n rb:Nat}{x:Int}{xs:List Int}
set_option maxRecDepth 100000
set_option linter.unusedSimpArgs false
set_option linter.unusedVariables false
set_option linter.defProp false
set_option maxHeartbeats 1000000
set_option linter.defProp false
def YtljjlhbbcjjmlaaGreatDoorTOFs7:=(And.intro (And.intro @agg3 (And.intro @by3 @inf3)) (And.intro @sz3 (And.intro @zero3 @Tryz.underlying25)))
def YtljjlhbbcjjmlaaGreatDoorTOFs21:=(And.intro (And.intro @agg3 (And.intro @by3 @inf3)) (And.intro @sz3 (And.intro @zero3 @Tryz.underlying25)))
def YtljjlhbbcjjmlaaGreatDoorTOFs23:=(And.intro (And.intro (And.intro @agg3 @fo104_0) (And.intro @fo108_0 @fo108_1)) (And.intro (And.intro @fo108_2 @inf3) (And.intro @sz3 (And.intro @zero3 @Tryz.underlying106))))
def YtljjlhbbcjjmlaaGreatDoorTOFs30:=(And.intro (And.intro (And.intro @agg2 @by2) (And.intro @by3 (And.intro @inf2 @inf3))) (And.intro (And.intro @sz2 @sz3) (And.intro @zero3 (And.intro @Tryz.underlying25 @Tryz.underlying117))))
def YtljjlhbbcjjmlaaGreatDoorTOFs79:=(And.intro (And.intro @agg3 @by3) (And.intro @inf3 (And.intro @sz3 @Tryz.underlying25)))
def YtljjlhbbcjjmlaaGreatDoorTOFs117:=(And.intro @agg3 (And.intro @inf3 @sz3))
def YtljjlhbbcjjmlaaGreatDoorTOFs118:=(And.intro (And.intro (And.intro @agg3 @agg51) (And.intro @fo104_0 (And.intro @fo108_0 @fo108_1))) (And.intro (And.intro @fo108_2 (And.intro @inf3 @inf51)) (And.intro @sz3 (And.intro @sz51 @Tryz.underlying106))))
theorem within87 (n lo hi:Int)(p q:Nat)(h:Heap)(hp:h[p]? =some (.cells #[.int .i64 lo] 3))(hq:h[q]? =some (.cells #[.int .i64 hi] 3)):
 ak Tryz.prog 117 (#[]++ #[.int .i64 n]++ #[.pointer (some ⟨p,0,none⟩),.pointer (some ⟨q,0,none⟩)]) h (fun v h'=>v= .bool (decide (n<lo)||decide (hi<n))/\Ext h h'):=by
 simp only[Array.append_empty,Array.empty_append,List.append_toArray,List.cons_append,List.nil_append]
 (refine Rm Tryz.func117 rfl bod117 ?_;simp only[Tryz.ntmps117,Tryz.results117,coreS,U1,splice,Value.cells,Value.oneCell',Nat.reduceAdd,Nat.reduceSub,Nat.reduceMul,Nat.reduceLeDiff,Int.reduceEq,Nat.reduceEqDiff,YtljjlhbbcjjmlaaGreatDoorTOFs117])
 simp only[hp,hq,coreS,U1,splice,Value.cells,Value.oneCell',Nat.reduceAdd,Nat.reduceSub,Nat.reduceMul,Nat.reduceLeDiff,Int.reduceEq,Nat.reduceEqDiff,YtljjlhbbcjjmlaaGreatDoorTOFs117];constructor
 .intro h1;simp[h1,Ext.refl]
 .intro h1;simp[h1,Ext.refl]
def idx (p:Int->Bool)(xs:List Int):Int:=match xs.findIdx? p with|some i=>i|none=> -1
theorem idx_none {p:Int->Bool}(H:∀j<xs.length,p (xs.getD j 0)=false):idx p xs= -1:=by
 have:xs.findIdx? p=none:=by
  rw[List.findIdx?_eq_none_iff];intro x hx;obtain⟨j,hj,rfl⟩:=List.getElem_of_mem hx;have:=H j hj;simpa[List.getD,List.getElem?_eq_getElem hj]using this
 simp[idx,this]
theorem idx_some {p:Int->Bool}(hi:i<xs.length)(H:∀j<i,p (xs.getD j 0)=false)(hp:p (xs.getD i 0)=true):idx p xs=i:=by
 have:xs.findIdx? p=some i:=by
  rw[List.findIdx?_eq_some_iff_getElem];refine⟨hi,by simpa[List.getD,List.getElem?_eq_getElem hi]using hp,fun j hj=> ?_⟩;have hj':j<xs.length:=by omega
  have:=H j hj;simpa[List.getD,List.getElem?_eq_getElem hj']using this
 simp[idx,this]
theorem indexFunc95 (a:Option Addr)(n c:Nat)(xs:List Int)(q:FuncId)(caps:Array Value)(p:Int->Bool)(h:Heap)(hs:eu h a n xs)(hl:n<=1000000)
 (hq:∀x∈xs,∀h',Ext h h'->ak Tryz.prog q (#[]++ #[.int .i64 x]++caps) h' (fun v h''=>v= .bool (p x)/\Ext h' h'')):
 ak Tryz.prog 79 #[.slice a n c,.func (.func q) #[] caps] h (fun v h'=>v= .int .i64 (idx p xs)/\Ext h h'):=by
 have hn:=hs.len
 (refine Rm Tryz.func79 rfl bod79 ?_;simp only[Tryz.ntmps79,Tryz.results79,coreS,U1,splice,Value.cells,Value.oneCell',Nat.reduceAdd,Nat.reduceSub,Nat.reduceMul,Nat.reduceLeDiff,Int.reduceEq,Nat.reduceEqDiff,YtljjlhbbcjjmlaaGreatDoorTOFs79])
 refine zAi [4,5,8,9,10,11,12,13,14,15,16,17,18] (fun g h'=>∃i:Nat,i<=n/\g 8= .int .i64 i/\(∀j<i,p (xs.getD j 0)=false)/\Ext h h') (fun g _=>match g 8 with| .int _ m=>n-m.toNat|_=>0) ?_ ?_
 .exact⟨0,by omega,rfl,fun j hj=>by omega,Ext.refl h⟩
 .intro g h' hI;obtain⟨i,hin,hg8,hno,hx⟩:=hI;by_cases hi:i<xs.length
  .simp only[hg8,(hs.ext hx).cell hi,coreS,Value.cells,Value.oneCell',Nat.reduceAdd,Nat.reduceSub,Nat.reduceMul,Nat.reduceLeDiff,Int.reduceEq,Nat.reduceEqDiff,YtljjlhbbcjjmlaaGreatDoorTOFs79];refine⟨fun hlt=>⟨⟨by omega,by omega⟩,(hs.ext hx).isSome (by omega),?_⟩,fun hge=>absurd hge (by omega)⟩;have hmem:xs.getD i 0∈xs:=by simp[List.getD,List.getElem?_eq_getElem hi]
   refine ak.mono (hq _ hmem _ hx) ?_;rintro v h2 ⟨rfl,hx2⟩;cases hp:p (xs.getD i 0)
   .simp only[coreS,Value.cells,Value.oneCell',Nat.reduceAdd,Nat.reduceSub,Nat.reduceMul,Nat.reduceLeDiff,Int.reduceEq,Nat.reduceEqDiff,YtljjlhbbcjjmlaaGreatDoorTOFs79];refine⟨by rw[zBS];omega,Zr (by kernel_rfl) ⟨i+1,by omega,rfl,?_,hx.trans hx2⟩ ?_⟩
    .intro j hj;by_cases hji:j=i
     .subst hji;exact hp
     .exact hno j (by omega)
    .show n-((i:Int)+1).toNat<n-(i:Int).toNat;omega
   .simp only[coreS,Value.cells,Value.oneCell',Nat.reduceAdd,Nat.reduceSub,Nat.reduceMul,Nat.reduceLeDiff,Int.reduceEq,Nat.reduceEqDiff,YtljjlhbbcjjmlaaGreatDoorTOFs79];exact⟨by rw[idx_some hi hno hp],hx.trans hx2⟩
  .simp only[hg8,coreS,Value.cells,Value.oneCell',Nat.reduceAdd,Nat.reduceSub,Nat.reduceMul,Nat.reduceLeDiff,Int.reduceEq,Nat.reduceEqDiff,YtljjlhbbcjjmlaaGreatDoorTOFs79];refine⟨fun hlt=>absurd hlt (by omega),fun hge=> ?_⟩;exact⟨by rw[idx_none fun j hj=>hno j (by omega)],hx⟩
theorem containsFunc86 (a:Option Addr)(n c:Nat)(xs:List Int)(q:FuncId)(caps:Array Value)(p:Int->Bool)(h:Heap)(hs:eu h a n xs)(hl:n<=1000000)
 (hq:∀x∈xs,∀h',Ext h h'->ak Tryz.prog q (#[]++ #[.int .i64 x]++caps) h' (fun v h''=>v= .bool (p x)/\Ext h' h'')):
 ak Tryz.prog 62 #[.slice a n c,.func (.func q) #[] caps] h (fun v h'=>v= .bool (xs.any p)/\Ext h h'):=by
 (refine Rm Tryz.func62 rfl bod62 ?_;simp only[Tryz.ntmps62,Tryz.results62,coreS,U1,splice,Value.cells,Value.oneCell',Nat.reduceAdd,Nat.reduceSub,Nat.reduceMul,Nat.reduceLeDiff,Int.reduceEq,Nat.reduceEqDiff])
 refine ak.mono (indexFunc95 a n c xs q caps p h hs hl hq) ?_;rintro v h2 ⟨rfl,hx⟩;simp only[coreS,Value.cells,Value.oneCell',Nat.reduceAdd,Nat.reduceSub,Nat.reduceMul,Nat.reduceLeDiff,Int.reduceEq,Nat.reduceEqDiff];refine⟨?_,hx⟩;congr 1;unfold idx;cases hf:xs.findIdx? p with
 |none=>
  rw[List.findIdx?_eq_none_iff]at hf;have:xs.any p=false:=by rw[List.any_eq_false];intro x hx;simp[hf x hx]
  simp[this]
 |some i=>
  rw[List.findIdx?_eq_some_iff_getElem]at hf;obtain⟨hi,hp,_⟩:=hf;have:xs.any p=true:=by rw[List.any_eq_true];exact⟨xs[i],List.getElem_mem hi,hp⟩
  simp[this]
def inB (lo hi:Int)(xs:List Int):Bool:=xs.all fun x=>decide (lo<=x)&&decide (x<=hi)
theorem within60 (lo hi:Int)(a:Option Addr)(n c:Nat)(xs:List Int)(h:Heap)(hs:eu h a n xs)(hl:n<=1000000):
 ak Tryz.prog 58 #[.int .i64 lo,.int .i64 hi,.slice a n c] h (fun v h'=>v= .bool (inB lo hi xs)/\Ext h h'):=by
 (refine Rm Tryz.func58 rfl bod58 ?_;simp only[Tryz.ntmps58,Tryz.results58,coreS,U1,splice,Value.cells,Value.oneCell',Nat.reduceAdd,Nat.reduceSub,Nat.reduceMul,Nat.reduceLeDiff,Int.reduceEq,Nat.reduceEqDiff])
 refine ak.mono (containsFunc86 a n c xs 117 _ (fun x=>decide (x<lo)||decide (hi<x)) _ ((hs.push _).push _) hl ?_) ?_
 .intro x _ h' hx;exact within87 x lo hi _ _ h' (hx.get (by simp only[uo,Rh,Nat.left_eq_add,Nat.succ_ne_self,if_false,if_true])) (hx.get (by simp only[uo,Rh,if_true]))
 .rintro v h2 ⟨rfl,hx⟩;simp only[coreS,Value.cells,Value.oneCell',Nat.reduceAdd,Nat.reduceSub,Nat.reduceMul,Nat.reduceLeDiff,Int.reduceEq,Nat.reduceEqDiff];refine⟨?_,hx.zBe.zBe⟩;congr 1;simp only[inB,List.not_any_eq_all_not];congr 1;funext x;by_cases h1:x<lo<;>by_cases h2:hi<x<;>simp[h1,h2,Int.not_lt.1,Int.not_le]<;>omega
def rcells (n:Int)(gone:List Int)(at':Int):List Value:= .int .i64 n::((ints gone)++[.int .i64 at'])
noncomputable def rS:Res (T×S)->S| .ok (_,s)=>s|_=>s0
theorem run52:∀n:Nat,1<=n->n<=12->∃s,run Pt.pr 1000 22 [.int .i64 n] s0= .ok (.ptr 0 0,s)/\s.at 0=some (.row (.int .i64 n::List.replicate 13 (.int .i64 0)) 108 false):=by
 intro n h1 h2;have:n=1\/n=2\/n=3\/n=4\/n=5\/n=6\/n=7\/n=8\/n=9\/n=10\/n=11\/n=12:=by omega
 rcases this with rfl|rfl|rfl|rfl|rfl|rfl|rfl|rfl|rfl|rfl|rfl|rfl
 .exact⟨rS (run Pt.pr 1000 22 [.int .i64 1] s0),by kernel_rfl,by kernel_rfl⟩
 .exact⟨rS (run Pt.pr 1000 22 [.int .i64 2] s0),by kernel_rfl,by kernel_rfl⟩
 .exact⟨rS (run Pt.pr 1000 22 [.int .i64 3] s0),by kernel_rfl,by kernel_rfl⟩
 .exact⟨rS (run Pt.pr 1000 22 [.int .i64 4] s0),by kernel_rfl,by kernel_rfl⟩
 .exact⟨rS (run Pt.pr 1000 22 [.int .i64 5] s0),by kernel_rfl,by kernel_rfl⟩
 .exact⟨rS (run Pt.pr 1000 22 [.int .i64 6] s0),by kernel_rfl,by kernel_rfl⟩
 .exact⟨rS (run Pt.pr 1000 22 [.int .i64 7] s0),by kernel_rfl,by kernel_rfl⟩
 .exact⟨rS (run Pt.pr 1000 22 [.int .i64 8] s0),by kernel_rfl,by kernel_rfl⟩
 .exact⟨rS (run Pt.pr 1000 22 [.int .i64 9] s0),by kernel_rfl,by kernel_rfl⟩
 .exact⟨rS (run Pt.pr 1000 22 [.int .i64 10] s0),by kernel_rfl,by kernel_rfl⟩
 .exact⟨rS (run Pt.pr 1000 22 [.int .i64 11] s0),by kernel_rfl,by kernel_rfl⟩
 .exact⟨rS (run Pt.pr 1000 22 [.int .i64 12] s0),by kernel_rfl,by kernel_rfl⟩
theorem newRound52 (n:Nat)(h1:1<=n)(h2:n<=12)(h:Eng.Heap):
 ak Tryz.prog 22 #[.int .i64 n] h (fun v h'=>∃b,v= .pointer (some ⟨b,0,none⟩)/\h'[b]? =some (.cells (rcells n (List.replicate 12 0) 0).toArray 108)/\h.size<=b/\Ext h h'):=by
 obtain⟨s,q1,q2⟩:=run52 n h1 h2;have:=vY Pt.ok (eY Pt.ok Pt.lb 1000) (us:=[.int .i64 n]) q1 ⟨_,[],rfl,rfl,rfl⟩ (Sim.zero h);refine this.mono ?_;rintro v h' ⟨ι',g1,g2,g3⟩;obtain⟨x,ob,k1,k2,cur,rfl,k4,k5,k6,_⟩:=g2.obj 0 _ q2;simp only[VR]at g3;obtain⟨y,k7,rfl⟩:=g3;rw[k1]at k7;cases k7;have hs:=k6 rfl;have hold:Ext h h':=⟨g1.size,fun r hr=>g1.old r hr fun b x hx=>by cases hx⟩;have hnew:h.size<=x.r:=by
  rcases g1.grow 0 x k1 with g|⟨_,g|⟨c,y,g,_⟩⟩
  .cases g
  .exact g
  .cases g
 refine⟨x.r,rfl,?_,hnew,hold⟩;rw[k2];congr 2;apply Array.toList_inj.1;rw[<-hs,<-Array.length_toList,List.take_length]at k5;generalize cur.toList=l at *;simp only[List.replicate,VL,VR]at k5;obtain⟨_,l,rfl,rfl,_,l,rfl,rfl,_,l,rfl,rfl,_,l,rfl,rfl,_,l,rfl,rfl,_,l,rfl,rfl,_,l,rfl,rfl,_,l,rfl,rfl,_,l,rfl,rfl,_,l,rfl,rfl,_,l,rfl,rfl,_,l,rfl,rfl,_,l,rfl,rfl,_,l,rfl,rfl,rfl⟩:=k5;rfl
def rot (n a:Nat):List Nat:=(List.range n).map fun i=>(a+i)% n
def leftL (n:Nat)(gone:List Int)(a:Nat):List Nat:=(rot n a).filter fun k=>gone.getD k 0==0
def turned (l:List Nat)(m:Nat):List Nat:=l.drop (m+1)++l.take m
theorem rot_length (n a:Nat):(rot n a).length=n:=by simp[rot]
theorem rot_get (hi:i<(rot n a).length):(rot n a)[i]=(a+i)% n:=by simp[rot]
theorem filter_at {α:Type}(p:α->Bool):∀(l:List α) (m:Nat),m<(l.filter p).length->∃(j:Nat) (x:α),l[j]? =some x/\p x=true/\(l.filter p)[m]? =some x/\(l.take j).filter p=(l.filter p).take m/\(l.drop (j+1)).filter p=(l.filter p).drop (m+1)
 |[],m,h=>by simp at h
 |y::l,m,h=>by
  by_cases hy:p y=true
  .rw[List.filter_cons_of_pos hy]at h ⊢;cases m with
   |zero=>exact⟨0,y,rfl,hy,rfl,by simp,by simp⟩
   |succ m=>
    obtain⟨j,x,h1,h2,h3,h4,h5⟩:=filter_at p l m (by simpa using h);exact⟨j+1,x,by simpa using h1,h2,by simpa using h3,by simp[List.filter_cons_of_pos hy,h4],by simpa using h5⟩
  .rw[List.filter_cons_of_neg hy]at h ⊢;obtain⟨j,x,h1,h2,h3,h4,h5⟩:=filter_at p l m h;exact⟨j+1,x,by simpa using h1,h2,h3,by simp[List.filter_cons_of_neg hy,h4],by simpa using h5⟩
theorem rot_next {j:Nat}(hj:j<n):rot n (((a+j)% n+1)% n)=(rot n a).drop (j+1)++(rot n a).take (j+1):=by
 apply List.ext_getElem
 .simp[rot_length];omega
 .intro i h1 h2;rw[rot_length]at h1;rw[rot_get,List.getElem_append];have hl:((rot n a).drop (j+1)).length=n-(j+1):=by simp[rot_length]
  split
  .rw[List.getElem_drop,rot_get];rw[Nat.mod_add_mod,Nat.add_assoc,Nat.mod_add_mod];congr 1;omega
  .rename_i hlt;rw[hl]at hlt;rw[List.getElem_take,rot_get];rw[Nat.mod_add_mod,Nat.add_assoc,Nat.mod_add_mod];rw[hl,show a+j+(1+i)=a+(i-(n-(j+1)))+n by omega,Nat.add_mod_right]
theorem rot_inj {j:Nat}(hi:i<n)(hj:j<n)(h:(a+i)% n=(a+j)% n):i=j:=by
 have h1:=Nat.div_add_mod (a+i) n;have h2:=Nat.div_add_mod (a+j) n;rw[h]at h1;have h3:n*((a+i)/n)+(a+j)=n*((a+j)/n)+(a+i):=by omega
 rcases Nat.lt_trichotomy ((a+i)/n) ((a+j)/n)with h4|h4|h4
 .have:=Nat.mul_le_mul_left n h4;rw[Nat.mul_succ]at this;omega
 .rw[h4]at h3;omega
 .have:=Nat.mul_le_mul_left n h4;rw[Nat.mul_succ]at this;omega
theorem rot_mem (h:k∈rot n a):k<n:=by
 simp only[rot,List.mem_map,List.mem_range]at h;obtain⟨i,hi,rfl⟩:=h;exact Nat.mod_lt _ (by omega)
theorem rot_nodup (n a:Nat):(rot n a).Nodup:=by
 unfold List.Nodup;rw[List.pairwise_iff_getElem];intro i j hi hj hij h;rw[rot_get,rot_get]at h;rw[rot_length]at hi hj;have:=rot_inj hi hj h;omega
theorem left_pass (hg:n<=gone.length)(hm:m<(leftL n gone a).length):
 leftL n (gone.set ((leftL n gone a).getD m 0) 1) (((leftL n gone a).getD m 0+1)% n)=turned (leftL n gone a) m:=by
 obtain⟨j,x,h1,h2,h3,h4,h5⟩:=filter_at (fun k=>gone.getD k 0==0) (rot n a) m hm;have hj:j<n:=by
  have:=(List.getElem?_eq_some_iff.1 h1).1;rwa[rot_length]at this
 have hx:(leftL n gone a).getD m 0=x:=by
  show((leftL n gone a)[m]?).getD 0=x;unfold leftL;rw[h3];rfl
 have hxe:x=(a+j)% n:=by
  obtain⟨_,h⟩:=List.getElem?_eq_some_iff.1 h1;rw[<-h,rot_get]
 rw[hx];have hxn:x<n:=by rw[hxe];exact Nat.mod_lt _ (by omega)
 have e1:∀k,((gone.set x 1).getD k 0==0)=(gone.getD k 0==0&& !(k==x)):=by
  intro k;simp only[List.getD,List.getElem?_set];by_cases hk:x=k
  .subst hk;simp[show x<gone.length by omega]
  .have:(k==x)=false:=by simpa using fun h:k=x=>hk h.symm
   simp[hk,this]
 have e2:∀l:List Nat,x∉l->l.filter (fun k=>(gone.set x 1).getD k 0==0)=l.filter (fun k=>gone.getD k 0==0):=by
  intro l hl;apply List.filter_congr;intro k hk;rw[e1];have:(k==x)=false:=by simpa using fun h:k=x=>hl (h▸hk)
  simp[this]
 have hr:leftL n (gone.set x 1) ((x+1)% n)=((rot n a).drop (j+1)).filter (fun k=>(gone.set x 1).getD k 0==0)++((rot n a).take (j+1)).filter (fun k=>(gone.set x 1).getD k 0==0):=by
  unfold leftL;rw[hxe,rot_next hj,List.filter_append]
 rw[hr];have hnd:=rot_nodup n a;have hsplit:rot n a=(rot n a).take j++x::(rot n a).drop (j+1):=by
  obtain⟨hlt,h⟩:=List.getElem?_eq_some_iff.1 h1;rw[<-h,<-List.drop_eq_getElem_cons,List.take_append_drop]
 have ht:(rot n a).take (j+1)=(rot n a).take j++[x]:=by
  rw[List.take_add_one,h1];rfl
 rw[hsplit]at hnd;rw[List.nodup_append]at hnd;obtain⟨_,n2,n3⟩:=hnd;rw[List.nodup_cons]at n2;have hnt:x∉(rot n a).take j:=fun hh=>n3 x hh x (by simp) rfl
 rw[ht,List.filter_append,e2 _ n2.1,e2 _ hnt,h4,h5];have:[x].filter (fun k=>(gone.set x 1).getD k 0==0)=[]:=by
  rw[List.filter_cons_of_neg,List.filter_nil];rw[e1];simp
 rw[this,List.append_nil];rfl
def ordF:List Nat->List Nat->List Nat
 |_,[]=>[]
 |l,c::cs=>l.getD c 0::ordF (turned l c) cs
def aft:List Nat->List Nat->List Nat
 |l,[]=>l
 |l,c::cs=>aft (turned l c) cs
def fits:Nat->List Nat->Prop
 |_,[]=>True
 |k,c::cs=>c<k/\fits (k-1) cs
theorem turned_length {l:List Nat}(h:m<l.length):(turned l m).length=l.length-1:=by simp[turned];omega
theorem ordF_snoc:∀(cs:List Nat) (l:List Nat) (c:Nat),ordF l (cs++[c])=ordF l cs++[(aft l cs).getD c 0]
 |[],l,c=>rfl
 |d::cs,l,c=>by simp[ordF,aft,ordF_snoc cs]
theorem aft_snoc:∀(cs:List Nat) (l:List Nat) (c:Nat),aft l (cs++[c])=turned (aft l cs) c
 |[],l,c=>rfl
 |d::cs,l,c=>by simp[aft,aft_snoc cs]
theorem ordF_length:∀(cs:List Nat) (l:List Nat),(ordF l cs).length=cs.length
 |[],l=>rfl
 |d::cs,l=>by simp[ordF,ordF_length cs]
theorem aft_length:∀(cs:List Nat) (l:List Nat),fits l.length cs->(aft l cs).length=l.length-cs.length
 |[],l,_=>by simp[aft]
 |d::cs,l,h=>by
  rw[aft,aft_length cs]
  .rw[turned_length h.1];simp;omega
  .rw[turned_length h.1];exact h.2
theorem fits_take:∀(cs:List Nat) (k i:Nat),fits k cs->fits k (cs.take i)
 |[],k,i,h=>by simp[fits]
 |c::cs,k,0,h=>trivial
 |c::cs,k,i+1,h=>⟨h.1,fits_take cs _ i h.2⟩
theorem fits_get:∀(cs:List Nat) (k i:Nat),fits k cs->i<cs.length->cs.getD i 0<k-i
 |[],k,i,h,hi=>by simp at hi
 |c::cs,k,0,h,hi=>h.1
 |c::cs,k,i+1,h,hi=>by
  have:=fits_get cs _ i h.2 (by simpa using hi);simp only[List.getD_cons_succ];omega
theorem fits_of:∀(cs:List Nat) (k:Nat),(∀i,i<cs.length->cs.getD i 0<k-i)->fits k cs
 |[],k,_=>trivial
 |c::cs,k,h=>⟨by have:=h 0 (by simp);simpa using this,fits_of cs _ fun i hi=>by have:=h (i+1) (by simpa using hi);simp only[List.getD_cons_succ]at this;omega⟩
theorem leftL_zero (n:Nat)(hn:n<=12):leftL n (List.replicate 12 0) 0=List.range n:=by
 have:∀n<13,leftL n (List.replicate 12 0) 0=List.range n:=by decide+kernel
 exact this n (by omega)
def stepC (n:Nat)(s:Int):List Nat:=(List.range n).map fun i=>((s-1)% ((n-i:Nat):Int)).toNat
def roundL (n:Nat)(s:Int):List Nat:=ordF (List.range n) (stepC n s)
theorem stepC_length (n:Nat)(s:Int):(stepC n s).length=n:=by simp[stepC]
theorem stepC_get {s:Int}(hi:i<n):(stepC n s).getD i 0=((s-1)% ((n-i:Nat):Int)).toNat:=by
 simp[stepC,List.getD,List.getElem?_map,List.getElem?_range hi]
theorem stepC_fits (n:Nat)(s:Int):fits n (stepC n s):=by
 refine fits_of _ _ fun i hi=> ?_
 rw[stepC_length]at hi;rw[stepC_get hi];have:=Int.emod_lt_of_pos (s-1) (show(0:Int)<(n-i:Nat) by omega);omega
theorem roundL_length (n:Nat)(s:Int):(roundL n s).length=n:=by rw[roundL,ordF_length,stepC_length]
def zs (l:List Nat):List Int:=l.map fun(x:Nat)=>(x:Int)
theorem zs_length (l:List Nat):(zs l).length=l.length:=by simp[zs]
theorem zs_get (l:List Nat)(i:Nat):(zs l).getD i 0=((l.getD i 0:Nat):Int):=by
 simp only[zs,List.getD,List.getElem?_map];cases l[i]? <;>rfl
theorem zs_append (l m:List Nat):zs (l++m)=zs l++zs m:=by simp[zs]
theorem intsV_one {ct:TypeId}{fr:Nat×Nat}:eu (h.push (.cells #[.int .i64 x] ct fr)) (some ⟨h.size,0,none⟩) 1 [x]:=eu.block (xs:=[x]) jD
def openE (shops:Int)(steps:List Int):Int:=if 1<=shops/\shops<=12 then if steps.any fun x=>decide (x<1)||decide (1099511627776<x)then 2 else 0 else 6
theorem open59 (shops:Int)(a:Option Addr)(n c:Nat)(steps:List Int)(h:Heap)(hs:eu h a n steps)(hl:n<=1000000):
 ak Tryz.prog 30 #[.int .i64 shops,.slice a n c] h (fun v h'=>Ext h h'/\((openE shops steps=0/\∃b,v= .tuple #[.pointer (some ⟨b,0,none⟩),.int .i64 0]/\h'[b]? =some (.cells (rcells shops (List.replicate 12 0) 0).toArray 108)/\h.size<=b)\/
  (openE shops steps≠0/\v= .tuple #[.pointer none,.int .i64 (openE shops steps)]))):=by
 have hn:=hs.len
 (refine Rm Tryz.func30 rfl bod30 ?_;simp only[Tryz.ntmps30,Tryz.results30,coreS,U1,splice,Value.cells,Value.oneCell',Nat.reduceAdd,Nat.reduceSub,Nat.reduceMul,Nat.reduceLeDiff,Int.reduceEq,Nat.reduceEqDiff,YtljjlhbbcjjmlaaGreatDoorTOFs30])
 refine ak.mono (within60 1 12 _ _ _ [shops] _ ?_ ?_) ?_
 .exact intsV_one
 .omega
 rintro v h1 ⟨rfl,hx1⟩
 replace hx1:=hx1.zBe
 cases hb1:inB 1 12 [shops]
 .have:¬(1<=shops/\shops<=12):=by simp[inB]at hb1;omega
  simp only[Bool.not_false,coreS,Value.cells,Value.oneCell',Nat.reduceAdd,Nat.reduceSub,Nat.reduceMul,Nat.reduceLeDiff,Int.reduceEq,Nat.reduceEqDiff,YtljjlhbbcjjmlaaGreatDoorTOFs30];exact⟨hx1,.inr (by simp[openE,this])⟩
 .have hsh:1<=shops/\shops<=12:=by simp[inB]at hb1;omega
  simp only[Bool.not_true,coreS,Value.cells,Value.oneCell',Nat.reduceAdd,Nat.reduceSub,Nat.reduceMul,Nat.reduceLeDiff,Int.reduceEq,Nat.reduceEqDiff,YtljjlhbbcjjmlaaGreatDoorTOFs30];refine zAi [4,5,7,14,15,16,17,18,19,20,21,22,23,24] (fun g h'=>h'=h1/\∃i:Nat,i<=n/\g 14= .int .i64 i/\∀j<i,1<=steps.getD j 0/\steps.getD j 0<=1099511627776) (fun g _=>match g 14 with| .int _ m=>n-m.toNat|_=>0) ?_ ?_
  .exact⟨rfl,0,by omega,rfl,fun j hj=>by omega⟩
  .intro g h' hI;obtain⟨rfl,i,hin,hg,hno⟩:=hI;have mem:∀j,j<steps.length->steps.getD j 0∈steps:=fun j hj=>by simp[List.getD,List.getElem?_eq_getElem hj]
   have bad:∀j,j<steps.length->(steps.getD j 0<1\/1099511627776<steps.getD j 0)->openE shops steps=2:=fun j hj hb=>by
    unfold openE;rw[if_pos hsh,if_pos];rw[List.any_eq_true];exact⟨_,mem j hj,by simpa using hb⟩
   by_cases hlt:i<steps.length
   .simp only[hg,(hs.ext hx1).cell hlt,coreS,Value.cells,Value.oneCell',Nat.reduceAdd,Nat.reduceSub,Nat.reduceMul,Nat.reduceLeDiff,Int.reduceEq,Nat.reduceEqDiff,YtljjlhbbcjjmlaaGreatDoorTOFs30];refine⟨fun _=>⟨⟨by omega,by omega⟩,(hs.ext hx1).isSome (by omega),?_⟩,fun hc=>absurd hc (by omega)⟩;refine⟨fun hb=>⟨hx1,.inr ?_⟩,fun hb=>⟨fun hb2=>⟨hx1,.inr ?_⟩,fun hb2=>⟨by rw[zBS];omega,Zr (by kernel_rfl) ⟨rfl,i+1,by omega,rfl,?_⟩ ?_⟩⟩⟩
    .rw[bad i hlt (.inl hb)];exact⟨by decide,rfl⟩
    .rw[bad i hlt (.inr hb2)];exact⟨by decide,rfl⟩
    .intro j hj;by_cases hji:j=i
     .subst hji;omega
     .exact hno j (by omega)
    .show n-((i:Int)+1).toNat<n-(i:Int).toNat;omega
   .simp only[hg,coreS,Value.cells,Value.oneCell',Nat.reduceAdd,Nat.reduceSub,Nat.reduceMul,Nat.reduceLeDiff,Int.reduceEq,Nat.reduceEqDiff,YtljjlhbbcjjmlaaGreatDoorTOFs30];refine⟨fun hc=>absurd hc (by omega),fun _=> ?_⟩;have h0:openE shops steps=0:=by
     unfold openE;rw[if_pos hsh,if_neg];rw[List.any_eq_true];rintro⟨x,hx,hb⟩;obtain⟨j,hj,rfl⟩:=List.getElem_of_mem hx;have:=hno j (by omega);simp[List.getD,List.getElem?_eq_getElem hj]at this hb;omega
    obtain⟨m,rfl⟩:∃m:Nat,shops=m:=⟨shops.toNat,by omega⟩;refine ak.mono (newRound52 m (by omega) (by omega) _) ?_;rintro v h2 ⟨b,rfl,hb,hb2,hx2⟩;simp only[coreS,Value.cells,Value.oneCell',Nat.reduceAdd,Nat.reduceSub,Nat.reduceMul,Nat.reduceLeDiff,Int.reduceEq,Nat.reduceEqDiff,YtljjlhbbcjjmlaaGreatDoorTOFs30];exact⟨hx1.trans hx2,.inl ⟨h0,b,rfl,hb,Nat.le_trans hx1.size hb2⟩⟩
def rcel (n:Nat)(gone:List Int)(a:Nat):List Value:= .int .i64 n::((ints gone)++[.int .i64 a])
theorem rcel_n:(rcel n gone a)[0]? =some (.int .i64 n):=rfl
theorem rcel_at (hg:gone.length=12):(rcel n gone a)[13]? =some (.int .i64 a):=by
 simp[rcel,hg,aR,List.getElem?_append]
theorem rcel_gone (hk:k<gone.length):(rcel n gone a)[1+k]? =some (.int .i64 (gone.getD k 0)):=by
 rw[Nat.add_comm,rcel,List.getElem?_cons_succ,List.getElem?_append_left (by rw[aR];exact hk),Cn _ _ hk]
theorem left79 (r:Value)(h:Heap):ak Tryz.prog 59 #[r] h (fun v h'=>v= .func (.func 118) #[] #[.pointer (some ⟨h.size,0,none⟩)]/\h'=h.push (.cells r.cells 51)):=by
 (refine Rm Tryz.func59 rfl bod59 ?_;simp only[Tryz.ntmps59,Tryz.results59,coreS,U1,splice,Value.cells,Value.oneCell',Nat.reduceAdd,Nat.reduceSub,Nat.reduceMul,Nat.reduceLeDiff,Int.reduceEq,Nat.reduceEqDiff])
theorem left94 (lo bx rb n a:Nat)(gone:List Int)(h:Heap)(hn1:1<=n)(hn:n<=12)(ha:a<n)(hg:gone.length=12)(J:Nat->Heap->Prop)(E:Heap->Prop)
 (hb:∀i h,J i h->h[bx]? =some (.cells #[.pointer (some ⟨rb,0,none⟩)] 51)) (hr:∀i h,J i h->h[rb]? =some (.cells (rcel n gone a).toArray 108)) (h0:J 0 h)
 (step:∀i h',i<(leftL n gone a).length->J i h'->Aw Tryz.prog (.func (.yield lo) #[] #[]) [.int .i64 ((leftL n gone a).getD i 0:Nat)] h' (fun v h''=>(v= .bool true/\J (i+1) h'')\/(v= .bool false/\E h''))):
 ak Tryz.prog 118 #[.func (.yield lo) #[] #[],.pointer (some ⟨bx,0,none⟩)] h (fun v h'=>J (leftL n gone a).length h'\/E h'):=by
 (refine Rm Tryz.func118 rfl bod118 ?_;simp only[Tryz.ntmps118,Tryz.results118,coreS,U1,splice,Value.cells,Value.oneCell',Nat.reduceAdd,Nat.reduceSub,Nat.reduceMul,Nat.reduceLeDiff,Int.reduceEq,Nat.reduceEqDiff,YtljjlhbbcjjmlaaGreatDoorTOFs118])
 simp only[hb 0 h h0,hr 0 h h0,rcel_n,coreS,Value.cells,Value.oneCell',Nat.reduceAdd,Nat.reduceSub,Nat.reduceMul,Nat.reduceLeDiff,Int.reduceEq,Nat.reduceEqDiff,YtljjlhbbcjjmlaaGreatDoorTOFs118];refine zAi [3,4,10,11,12,13,14,15,16,17,18,19,20,21,22,23,24,25,26,27,28,29,30,31,32,33,34,35,36,37,38] (fun g h'=>∃i:Nat,i<=n/\g 10= .int .i64 i/\J (((rot n a).take i).filter fun k=>gone.getD k 0==0).length h') (fun g _=>match g 10 with| .int _ m=>n-m.toNat|_=>0) ?_ ?_
 .exact⟨0,by omega,rfl,by simpa using h0⟩
 .intro g h' hI;obtain⟨i,hi,hg10,hJ⟩:=hI;simp only[hg10,coreS,Value.cells,Value.oneCell',Nat.reduceAdd,Nat.reduceSub,Nat.reduceMul,Nat.reduceLeDiff,Int.reduceEq,Nat.reduceEqDiff,YtljjlhbbcjjmlaaGreatDoorTOFs118];refine⟨fun hlt=> ?_,fun hge=> ?_⟩
  .refine zB9 (by kernel_rfl) zBp [(0,0),(1,0),(2,0),(3,0),(4,0),(5,0),(6,0),(7,0),(8,0),(9,0),(10,0),(11,0),(12,0)] (by kernel_rfl) rfl (by kernel_rfl) ?_;simp only[hb _ h' hJ,hr _ h' hJ,rcel_n,rcel_at hg,coreS,Value.cells,Value.oneCell',Nat.reduceAdd,Nat.reduceSub,Nat.reduceMul,Nat.reduceLeDiff,Int.reduceEq,Nat.reduceEqDiff,drawS,YtljjlhbbcjjmlaaGreatDoorTOFs118];refine⟨by rw[zBS];omega,by omega,?_⟩;have e1:((a:Int)+i).tmod n=((a+i)% n:Nat):=by rw[Int.tmod_eq_emod_of_nonneg (by omega)];rfl
   have hk:(a+i)% n<gone.length:=by have:=Nat.mod_lt (a+i) (show 0<n by omega);omega
   rw[e1];simp only[hb _ h' hJ,hr _ h' hJ,coreS,Value.cells,Value.oneCell',Nat.reduceAdd,Nat.reduceSub,Nat.reduceMul,Nat.reduceLeDiff,Int.reduceEq,Nat.reduceEqDiff,YtljjlhbbcjjmlaaGreatDoorTOFs118];rw[rcel_gone hk];have htake:(rot n a).take (i+1)=(rot n a).take i++[(a+i)% n]:=by
    rw[List.take_add_one,List.getElem?_eq_getElem (by rw[rot_length];omega),rot_get];rfl
   generalize hkk:(a+i)% n=k at *;refine⟨by omega,?_⟩;by_cases hz:gone.getD k 0=0
   .have hcnt:(((rot n a).take (i+1)).filter fun k=>gone.getD k 0==0)=(((rot n a).take i).filter fun k=>gone.getD k 0==0)++[k]:=by
     rw[htake,List.filter_append,List.filter_cons_of_pos (by simpa using hz),List.filter_nil]
    have hL:leftL n gone a=(((rot n a).take i).filter fun k=>gone.getD k 0==0)++k::(((rot n a).drop (i+1)).filter fun k=>gone.getD k 0==0):=by
     unfold leftL;rw[show(rot n a).filter (fun k=>gone.getD k 0==0)=((rot n a).take (i+1)++(rot n a).drop (i+1)).filter (fun k=>gone.getD k 0==0) by rw[List.take_append_drop],List.filter_append,hcnt,List.append_assoc];rfl
    have hget:(leftL n gone a).getD (((rot n a).take i).filter fun k=>gone.getD k 0==0).length 0=k:=by
     rw[hL];simp[List.getD]
    have hlt2:(((rot n a).take i).filter fun k=>gone.getD k 0==0).length<(leftL n gone a).length:=by
     rw[hL];simp
    have hst:=step _ h' hlt2 hJ;rw[hget]at hst;simp only[hz,coreS,Value.cells,Value.oneCell',Nat.reduceAdd,Nat.reduceSub,Nat.reduceMul,Nat.reduceLeDiff,Int.reduceEq,Nat.reduceEqDiff,Uo,YA,XA,Xg,YV,Zi,YtljjlhbbcjjmlaaGreatDoorTOFs118];refine hst.run1 rfl rfl ?_;rintro v h2 (⟨rfl,hJ2⟩|⟨rfl,hE⟩)
    .simp only[coreS,Value.cells,Value.oneCell',Nat.reduceAdd,Nat.reduceSub,Nat.reduceMul,Nat.reduceLeDiff,Int.reduceEq,Nat.reduceEqDiff,Uo,YA,XA,Xg,YV,Zi,YtljjlhbbcjjmlaaGreatDoorTOFs118];refine⟨by rw[zBS];omega,Zr (by kernel_rfl) ⟨i+1,by omega,rfl,?_⟩ ?_⟩
     .rw[hcnt,List.length_append];exact hJ2
     .show n-((i:Int)+1).toNat<n-(i:Int).toNat;omega
    .simp only[coreS,Value.cells,Value.oneCell',Nat.reduceAdd,Nat.reduceSub,Nat.reduceMul,Nat.reduceLeDiff,Int.reduceEq,Nat.reduceEqDiff,Uo,YA,XA,Xg,YV,Zi,YtljjlhbbcjjmlaaGreatDoorTOFs118];exact .inr hE
   .have hcnt:(((rot n a).take (i+1)).filter fun k=>gone.getD k 0==0)=(((rot n a).take i).filter fun k=>gone.getD k 0==0):=by
     rw[htake,List.filter_append,List.filter_cons_of_neg (by simpa using hz),List.filter_nil,List.append_nil]
    simp only[hz,coreS,Value.cells,Value.oneCell',Nat.reduceAdd,Nat.reduceSub,Nat.reduceMul,Nat.reduceLeDiff,Int.reduceEq,Nat.reduceEqDiff,Uo,YA,XA,Xg,YV,Zi,YtljjlhbbcjjmlaaGreatDoorTOFs118];refine⟨by rw[zBS];omega,Zr (by kernel_rfl) ⟨i+1,by omega,rfl,?_⟩ ?_⟩
    .rw[hcnt];exact hJ
    .show n-((i:Int)+1).toNat<n-(i:Int).toNat;omega
  .have:i=n:=by omega
   subst this;rw[List.take_of_length_le (by rw[rot_length];omega)]at hJ;exact .inl hJ
theorem rcel_set (hk:k<gone.length):splice (rcel n gone a) (1+k) [.int .i64 1]=rcel n (gone.set k 1) a:=by
 rw[MN _ _ _ (by simp[rcel,aR];omega),Nat.add_comm,rcel,List.set_cons_succ,List.set_append_left _ _ (by rw[aR];exact hk),ints_set];rfl
theorem rcel_seat (hg:gone.length=12):splice (rcel n gone a) 13 [.int .i64 b]=rcel n gone b:=by
 rw[MN _ _ _ (by simp[rcel,aR];omega),rcel,List.set_cons_succ,List.set_append_right _ _ (by rw[aR];omega),aR,hg];rfl
theorem rcel_len (hg:gone.length=12):(rcel n gone a).length=14:=by simp[rcel,aR,hg]
structure Chg (h h':Heap)(b:Nat):Prop where
 size:h.size<=h'.size
 old:∀c,c<h.size->c≠b->h'[c]? =h[c]?
theorem Chg.Sg (x:Ext h h')(b:Nat):Chg h h' b:=⟨x.size,fun c hc _=>x.old c hc⟩
theorem Chg.trans (x:Chg h h' b)(y:Chg h' h'' b):Chg h h'' b:=⟨Nat.le_trans x.size y.size,fun c hc hne=>(y.old c (Nat.lt_of_lt_of_le hc x.size) hne).trans (x.old c hc hne)⟩
theorem Chg.get {o:Obj}(x:Chg h h' b)(hc:h[c]? =some o)(hne:c≠b):h'[c]? =some o:=(x.old c (bA hc) hne).trans hc
theorem Chg.upd (x:Chg h h' b)(u:Upd h' h'' b):Chg h h'' b:=⟨by rw[u.size];exact x.size,fun c hc hne=>(u.old c hne).trans (x.old c hc hne)⟩
theorem Chg.zBk (x:Chg h h' b)(u:Upd h' h'' c)(hc:h.size<=c):Chg h h'' b:=⟨by rw[u.size];exact x.size,fun i hi hne=>(u.old i (by omega)).trans (x.old i hi hne)⟩
theorem pass53 (rb n a m:Nat)(gone:List Int)(h:Heap)(hn1:1<=n)(hn:n<=12)(ha:a<n)(hg:gone.length=12)(hr:h[rb]? =some (.cells (rcel n gone a).toArray 108))(hm:m<(leftL n gone a).length):
 ak Tryz.prog 23 #[.pointer (some ⟨rb,0,none⟩),.int .i64 m] h (fun v h'=>v= .int .i64 ((leftL n gone a).getD m 0:Nat)/\Chg h h' rb/\
  h'[rb]? =some (.cells (rcel n (gone.set ((leftL n gone a).getD m 0) 1) (((leftL n gone a).getD m 0+1)% n)).toArray 108)):=by
 (refine Rm Tryz.func23 rfl bod23 ?_;simp only[Tryz.ntmps23,Tryz.results23,coreS,U1,splice,Value.cells,Value.oneCell',Nat.reduceAdd,Nat.reduceSub,Nat.reduceMul,Nat.reduceLeDiff,Int.reduceEq,Nat.reduceEqDiff,YtljjlhbbcjjmlaaGreatDoorTOFs23])
 refine YU ?_;simp only[Jy hr,rcel_at hg,coreS,Value.cells,Value.oneCell',Nat.reduceAdd,Nat.reduceSub,Nat.reduceMul,Nat.reduceLeDiff,Int.reduceEq,Nat.reduceEqDiff,Uo,YA,XA,Xg,YV,Zi,YtljjlhbbcjjmlaaGreatDoorTOFs23];have hrb:=bA hr;have hm12:m<12:=by
  have:(leftL n gone a).length<=(rot n a).length:=List.length_filter_le _ _;rw[rot_length]at this;omega
 have hr2:=Jy (o:= .cells #[.int .i64 0] 3) (Jy (o:= .cells #[.int .i64 m] 3) hr);refine Oy (c:=[.int .i64 0]) (by simp only[uo,Rh,if_true]) (by simp) fun h3 hb5 u3=> ?_
 have x3:Ext h h3:=u3.ext (((Ext.refl h).push _).push _) (by omega);have hb3:h3[h.size]? =some (.cells #[.int .i64 m] 3):=u3.get (by simp only[uo,Rh,Nat.left_eq_add,Nat.succ_ne_self,if_false,if_true]) (by omega);have hr3:h3[rb]? =some (.cells (rcel n gone a).toArray 108):=x3.get hr;have hs3:h3.size=h.size+2:=by rw[u3.size];simp
 replace hb5:h3[h.size+1]? =some (.cells #[.int .i64 a] 3):=hb5
 clear u3;simp only[coreS,Value.cells,Value.oneCell',Nat.reduceAdd,Nat.reduceSub,Nat.reduceMul,Nat.reduceLeDiff,Int.reduceEq,Nat.reduceEqDiff,Uo,YA,XA,Xg,YV,Zi,YtljjlhbbcjjmlaaGreatDoorTOFs23];refine ak.mono (left79 _ _) ?_;rintro v h4 ⟨rfl,rfl⟩;simp only[coreS,Value.cells,Value.oneCell',Nat.reduceAdd,Nat.reduceSub,Nat.reduceMul,Nat.reduceLeDiff,Int.reduceEq,Nat.reduceEqDiff,Uo,YA,XA,Xg,YV,Zi,YtljjlhbbcjjmlaaGreatDoorTOFs23];refine DU rfl ?_;intro R R1 R2 R3 R4 R5 R6 R7;simp only[Rh,hs3]at R7 ⊢;have es:h.size+2+1=h.size+3/\h.size+2+1+1=h.size+4:=⟨by omega,by omega⟩;rw[es.2,es.1]at *;obtain⟨hh,hhe⟩:∃hh,hh=((h3.push (.cells (Value.pointer (some ⟨rb,0,none⟩)).cells 51)).push (.deferred (some []))).push (.loop R):=⟨_,rfl⟩;have y1:hh[h.size]? =some (.cells #[.int .i64 m] 3):=by rw[hhe];exact Jy (Jy (Jy hb3))
 have y2:hh[h.size+1]? =some (.cells #[.int .i64 a] 3):=by rw[hhe];exact Jy (Jy (Jy hb5))
 have y3:hh[h.size+2]? =some (.cells #[.pointer (some ⟨rb,0,none⟩)] 51):=by rw[hhe,<-hs3];exact Jy (Jy jD)
 have y4:hh[h.size+3]? =some (.deferred (some [])):=by
  rw[hhe];refine Jy ?_;rw[show h.size+3=(h3.push (.cells (Value.pointer (some ⟨rb,0,none⟩)).cells 51)).size by rw[Rh,hs3]];exact jD
 have y5:hh[h.size+4]? =some (.loop R):=by
  rw[hhe,show h.size+4=((h3.push (.cells (Value.pointer (some ⟨rb,0,none⟩)).cells 51)).push (.deferred (some []))).size by rw[Rh,Rh,hs3]];exact jD
 have y6:Ext h hh:=by rw[hhe];exact((x3.push _).push _).push _
 have y7:hh[rb]? =some (.cells (rcel n gone a).toArray 108):=y6.get hr;show ak Tryz.prog 118 #[.func (.yield (h.size+4)) #[] #[],.pointer (some ⟨h.size+2,0,none⟩)] (((h3.push (.cells (Value.pointer (some ⟨rb,0,none⟩)).cells 51)).push (.deferred (some []))).push (.loop R)) _;rw[<-hhe];clear hhe hb3 hb5 hr3 x3 hs3 hr2;refine ak.mono (left94 (h.size+4) (h.size+2) rb n a gone hh hn1 hn ha hg
  (fun i h'=>i<=m/\h'[h.size]? =some (.cells #[.int .i64 ((m:Int)-i)] 3)/\h'[h.size+1]? =some (.cells #[.int .i64 a] 3)/\h'[h.size+2]? =some (.cells #[.pointer (some ⟨rb,0,none⟩)] 51)/\
   h'[h.size+3]? =some (.deferred (some []))/\h'[h.size+4]? =some (.loop R)/\Ext h h')
  (fun h'=>h'[h.size+1]? =some (.cells #[.int .i64 ((leftL n gone a).getD m 0:Nat)] 3)/\h'[h.size+3]? =some (.deferred (some []))/\(∃rec:Loop,h'[h.size+4]? =some (.loop rec)/\rec.state= .done/\rec.pending=some (.exit 0))/\Ext h h')
  (fun i h' H=>H.2.2.2.1) (fun i h' H=>H.2.2.2.2.2.2.get hr) ⟨by omega,by simpa using y1,y2,y3,y4,y5,y6⟩ ?_) ?_
 .rintro i h' hi ⟨z0,z1,z2,z3,z4,z5,z6⟩;refine yZ z5 (by rw[R4];rfl) ?_;rw[R3,R4,R5,R6];simp only[coreS,Value.cells,Value.oneCell',Nat.reduceAdd,Nat.reduceSub,Nat.reduceMul,Nat.reduceLeDiff,Int.reduceEq,Nat.reduceEqDiff,Uo,YA,XA,Xg,YV,Zi,YtljjlhbbcjjmlaaGreatDoorTOFs23];refine yT z5 R1 ?_;obtain⟨h6,hh6⟩:∃h6,h6=h'.setIfInBounds (h.size+4) (.loop {R with state:= .busy}):=⟨_,rfl⟩;have u6:Upd h' h6 (h.size+4):=by rw[hh6];exact Upd.set
  have w5:h6[h.size+4]? =some (.loop {R with state:= .busy}):=by rw[hh6];exact mE (bA z5)
  have w1:=u6.get z1 (by omega);have w2:=u6.get z2 (by omega);have w3:=u6.get z3 (by omega);have w4:=u6.get z4 (by omega);have w6:Ext h h6:=u6.ext z6 (by omega);show exec _ _ _ _ _ _ (h'.setIfInBounds (h.size+4) (.loop {R with state:= .busy}));rw[<-hh6];clear hh6 u6 z1 z2 z3 z4 z5 z6;simp only[w1,w2,coreS,Value.cells,Value.oneCell',Nat.reduceAdd,Nat.reduceSub,Nat.reduceMul,Nat.reduceLeDiff,Int.reduceEq,Nat.reduceEqDiff,Uo,YA,XA,Xg,YV,Zi,YtljjlhbbcjjmlaaGreatDoorTOFs23];refine⟨fun he=> ?_,fun hne=> ?_⟩
  .have hie:i=m:=by omega
   subst hie;refine Oy (c:=[.int .i64 a]) w2 (by simp) fun h7 g2 u7=> ?_
   simp only[coreS,Value.cells,Value.oneCell',Nat.reduceAdd,Nat.reduceSub,Nat.reduceMul,Nat.reduceLeDiff,Int.reduceEq,Nat.reduceEqDiff,Uo,YA,XA,Xg,YV,Zi,YtljjlhbbcjjmlaaGreatDoorTOFs23];refine⟨_,u7.get w5 (by omega),?_⟩;have u8:Upd h7 (h7.setIfInBounds (h.size+4) (.loop {({R with state:= .busy}:Loop)with state:= .done,pending:=some (.exit 0)})) (h.size+4):=Upd.set;refine .inr ⟨rfl,u8.get g2 (by omega),u8.get (u7.get w4 (by omega)) (by omega),⟨_,mE (by have:=bA w5;rw[u7.size];exact this),rfl,rfl⟩,u8.ext (u7.ext w6 (by omega)) (by omega)⟩
  .refine⟨by rw[zBS];omega,?_⟩;refine Oy (c:=[.int .i64 ((m:Int)-i)]) w1 (by simp) fun h7 g1 u7=> ?_
   simp only[coreS,Value.cells,Value.oneCell',Nat.reduceAdd,Nat.reduceSub,Nat.reduceMul,Nat.reduceLeDiff,Int.reduceEq,Nat.reduceEqDiff,Uo,YA,XA,Xg,YV,Zi,YtljjlhbbcjjmlaaGreatDoorTOFs23];have w5':=u7.get w5 (by omega);refine⟨_,w5',?_⟩;have u8:Upd h7 (h7.setIfInBounds (h.size+4) (.loop {({R with state:= .busy}:Loop)with state:= .ready,pending:=none})) (h.size+4):=Upd.set;refine .inl ⟨rfl,by omega,?_,u8.get (u7.get w2 (by omega)) (by omega),u8.get (u7.get w3 (by omega)) (by omega),u8.get (u7.get w4 (by omega)) (by omega),?_,u8.ext (u7.ext w6 (by omega)) (by omega)⟩
   .refine(u8.get g1 (by omega)).trans ?_;show some (Obj.cells #[.int .i64 ((m:Int)-i-1)] 3)=some (Obj.cells #[.int .i64 ((m:Int)-((i+1:Nat):Int))] 3);rw[show(m:Int)-((i+1:Nat):Int)=(m:Int)-i-1 by omega]
   .rw[mE (bA w5'),Loop.back R1 R2]
 .rintro v h5 (⟨z0,_⟩|⟨z2,z4,⟨rec,z5,z6,z7⟩,z8⟩)
  .exact absurd z0 (by omega)
  .refine⟨rec,z5,by rw[z6];decide,?_⟩;rw[z7];show exec none Tryz.prog (.exit 0) _ _ _ _;obtain⟨h6,hh6⟩:∃h6,h6=h5.setIfInBounds (h.size+4) (.loop {rec with state:= .exhausted}):=⟨_,rfl⟩;have u6:Upd h5 h6 (h.size+4):=by rw[hh6];exact Upd.set
   have w2:=u6.get z2 (by omega);have w4:=u6.get z4 (by omega);have w8:Ext h h6:=u6.ext z8 (by omega);have wr:=w8.get hr;rw[<-z7,<-hh6];clear hh6 u6 z2 z4 z5 z6 z7 z8 R1 R2 R3 R4 R5 R6 R7 y1 y2 y3 y4 y5 y6 y7 es;obtain⟨k,hk⟩:∃k,k=(leftL n gone a).getD m 0:=⟨_,rfl⟩;have hkn:k<n:=by
    rw[hk];have:(leftL n gone a).getD m 0∈rot n a:=by
     have hmem:(leftL n gone a).getD m 0∈leftL n gone a:=by
      rw[List.getD,List.getElem?_eq_getElem hm];exact List.getElem_mem hm
     exact(List.mem_filter.1 hmem).1
    exact rot_mem this
   rw[<-hk]at w2 ⊢;simp only[coreS,Value.cells,Value.oneCell',Nat.reduceAdd,Nat.reduceSub,Nat.reduceMul,Nat.reduceLeDiff,Int.reduceEq,Nat.reduceEqDiff,Uo,YA,XA,Xg,YV,Zi,YtljjlhbbcjjmlaaGreatDoorTOFs23];refine zB9 (by kernel_rfl) zBp [(0,0),(1,0),(2,0),(3,0),(4,0),(5,1)] (by kernel_rfl) rfl (by kernel_rfl) ?_;simp only[w2,wr,coreS,Value.cells,Value.oneCell',Nat.reduceAdd,Nat.reduceSub,Nat.reduceMul,Nat.reduceLeDiff,Int.reduceEq,Nat.reduceEqDiff,Uo,YA,XA,Xg,YV,Zi,drawS,YtljjlhbbcjjmlaaGreatDoorTOFs23];refine⟨by omega,Oy wr (by rw[rcel_len hg];simp;omega) fun h7 g7 u7=> ?_⟩;rw[rcel_set (by omega)]at g7;have v2:=u7.get w2 (by omega);have v4:=u7.get w4 (by omega);have v8:Chg h h7 rb:=(Chg.Sg w8 rb).upd u7;clear w2 w4 w8 u7 wr;simp only[coreS,Value.cells,Value.oneCell',Nat.reduceAdd,Nat.reduceSub,Nat.reduceMul,Nat.reduceLeDiff,Int.reduceEq,Nat.reduceEqDiff,Uo,YA,XA,Xg,YV,Zi,drawS,YtljjlhbbcjjmlaaGreatDoorTOFs23,Ye];refine zB9 (by kernel_rfl) zBp [(0,0),(1,0),(2,0),(3,0),(4,0),(5,0),(6,0),(7,0),(8,0),(9,0),(10,0),(11,1)] (by kernel_rfl) rfl (by kernel_rfl) ?_;simp only[v2,g7,rcel_n,coreS,Value.cells,Value.oneCell',Nat.reduceAdd,Nat.reduceSub,Nat.reduceMul,Nat.reduceLeDiff,Int.reduceEq,Nat.reduceEqDiff,Uo,YA,XA,Xg,YV,Zi,drawS,YtljjlhbbcjjmlaaGreatDoorTOFs23];have e2:((k:Int)+1).tmod n=((k+1)% n:Nat):=by rw[Int.tmod_eq_emod_of_nonneg (by omega)];rfl
   rw[e2];refine⟨by rw[zBS];omega,by omega,?_⟩;refine Oy g7 (by rw[rcel_len (by rw[List.length_set];exact hg)];simp) fun h8 g8 u8=> ?_
   rw[rcel_seat (by rw[List.length_set];exact hg)]at g8;have t2:=u8.get v2 (by omega);have t4:=u8.get v4 (by omega);have t8:=v8.upd u8;simp only[coreS,Value.cells,Value.oneCell',Nat.reduceAdd,Nat.reduceSub,Nat.reduceMul,Nat.reduceLeDiff,Int.reduceEq,Nat.reduceEqDiff,Uo,YA,XA,Xg,YV,Zi,drawS,YtljjlhbbcjjmlaaGreatDoorTOFs23,Ye];simp only[t2,coreS,Value.cells,Value.oneCell',Nat.reduceAdd,Nat.reduceSub,Nat.reduceMul,Nat.reduceLeDiff,Int.reduceEq,Nat.reduceEqDiff,Uo,YA,XA,Xg,YV,Zi,drawS,YtljjlhbbcjjmlaaGreatDoorTOFs23];refine zBD t4 ?_;simp only[coreS,Value.cells,Value.oneCell',Nat.reduceAdd,Nat.reduceSub,Nat.reduceMul,Nat.reduceLeDiff,Int.reduceEq,Nat.reduceEqDiff,Uo,YA,XA,Xg,YV,Zi,YtljjlhbbcjjmlaaGreatDoorTOFs23];have u9:Upd h8 (h8.setIfInBounds (h.size+3) (.deferred none)) (h.size+3):=Upd.set;exact⟨t8.zBk u9 (by omega),u9.get g8 (by omega)⟩
theorem openE_one {n s:Int}(h:openE n [s]=0):(1<=n/\n<=12)/\1<=s/\s<=1099511627776:=by
 unfold openE at h;split at h
 .rename_i hc;simp at h;omega
 .omega
theorem Chg.fresh {h0:Heap}(x:Ext h0 h)(c:Chg h h' b)(hb:h0.size<=b):Ext h0 h':=⟨Nat.le_trans x.size c.size,fun i hi=>(c.old i (Nat.lt_of_lt_of_le hi x.size) (by omega)).trans (x.old i hi)⟩
theorem eltP_zero (a:Option Addr):lg a 0=a:=by cases a<;>simp[lg,Cm]
theorem intsV_take {a:Option Addr}(H:eu h a n xs)(i:Nat)(hi:i<=n):eu h a i (xs.take i):=
 ⟨by rw[List.length_take];have:=H.len;omega,by have:=H.row.take i;rwa[show(ints xs).take i=ints (xs.take i) by simp[ints,List.map_take]]at this⟩
theorem app22 {h:Eng.Heap}{er:Env}{ty:TypeId}{m0:Nat}{x y:Operand}{a b:Option Addr}{len cap:Nat}{ys:List Int}{K:Value->Eng.Heap->Prop}(hx:ev er x= .slice a len cap)(hy:ev er y= .slice b m c)(O:eG m0 h 3 a len cap xs)(h0h:m0<=h.size)(I:eu h b m ys)(hb:len+m<=100000)(H:∀a' cap' h',eG m0 h' 3 a' (len+m) cap' (xs++ys)->App h h' a a'->K (.slice a' (len+m) cap') h'):aI Tryz.prog (.call ⟨.builtin .append,#[x,y],#[25,25]⟩) ty er h K:=
 WW Tryz.underlying25 Tryz.underlying25 inf3 sz3 (by rw[by3];decide) zero3 hx hy O h0h I hb H
theorem openE_nil' {n:Int}:openE n []=if 1<=n/\n<=12 then 0 else 6:=by simp[openE]
def Rnd0 (h:Eng.Heap)(rb n:Nat)(L:List Nat):Prop:=∃gone a,gone.length=12/\a<n/\h[rb]? =some (.cells (rcel n gone a).toArray 108)/\leftL n gone a=L/\((gone=List.replicate 12 0)->a=0)
theorem Rnd0.new {h:Eng.Heap}(hn1:1<=n)(hn:n<=12)(hr:h[rb]? =some (.cells (rcells n (List.replicate 12 0) 0).toArray 108)):Rnd0 h rb n (List.range n):=
 ⟨List.replicate 12 0,0,by simp,by omega,hr,leftL_zero n hn,fun _=>rfl⟩
theorem Rnd0.get {h h':Eng.Heap}(H:Rnd0 h rb n L)(hk:h'[rb]? =h[rb]?):Rnd0 h' rb n L:=by
 obtain⟨gone,a,h1,h2,h3,h4⟩:=H;exact⟨gone,a,h1,h2,hk.trans h3,h4⟩
theorem Rnd0.lt {h:Eng.Heap}(H:Rnd0 h rb n L):rb<h.size:=by
 obtain⟨gone,a,h1,h2,h3,h4⟩:=H;exact bA h3
theorem Rnd0.pass {h:Eng.Heap}(hn1:1<=n)(hn:n<=12)(H:Rnd0 h rb n L)(hm:m<L.length):
 ak Tryz.prog 23 #[.pointer (some ⟨rb,0,none⟩),.int .i64 m] h (fun v h'=>v= .int .i64 (L.getD m 0:Nat)/\Chg h h' rb/\Rnd0 h' rb n (turned L m)):=by
 obtain⟨gone,a,h1,h2,h3,rfl,h5⟩:=H;refine ak.mono (pass53 rb n a m gone h hn1 hn h2 h1 h3 hm) ?_;rintro v h' ⟨q1,q2,q3⟩;refine⟨q1,q2,_,_,by simpa using h1,Nat.mod_lt _ (by omega),q3,left_pass (by omega) hm,fun he=> ?_⟩;have hx:(leftL n gone a).getD m 0<12:=by
  have:(leftL n gone a).getD m 0∈rot n a:=by
   have hmem:(leftL n gone a).getD m 0∈leftL n gone a:=by
    rw[List.getD,List.getElem?_eq_getElem hm];exact List.getElem_mem hm
   exact(List.mem_filter.1 hmem).1
  have:=rot_mem this;omega
 have:=congrArg (fun l=>l.getD ((leftL n gone a).getD m 0) 0) he;simp only[List.getD,List.getElem?_set,h1,List.getElem?_replicate]at this;simp only[List.getD]at hx;simp[hx]at this
theorem take_next {xs:List Nat}(hi:i<xs.length):xs.take (i+1)=xs.take i++[xs.getD i 0]:=by
 rw[List.take_add_one,List.getElem?_eq_getElem hi,List.getD,List.getElem?_eq_getElem hi];rfl
def natL (xs:List Int):List Nat:=xs.map Int.toNat
theorem natL_length (xs:List Int):(natL xs).length=xs.length:=by simp[natL]
theorem zs_natL (h:∀x∈xs,0<=x):zs (natL xs)=xs:=by
 simp only[zs,natL,List.map_map]
 conv=>rhs;rw[<-List.map_id xs]
 apply List.map_congr_left;intro x hx;have:=h x hx;simp;omega
theorem natL_get (xs:List Int)(i:Nat):(natL xs).getD i 0=(xs.getD i 0).toNat:=by
 simp only[natL,List.getD,List.getElem?_map];cases xs[i]? <;>rfl
theorem inB_one {lo hi:Int}:inB lo hi [x]=true<->lo<=x/\x<=hi:=by simp[inB]
theorem inB_one' {lo hi:Int}:inB lo hi [x]=false<->¬(lo<=x/\x<=hi):=by
 rw[<-inB_one];simp
def ListP (e:Int)(zl:List Int)(h':Eng.Heap)(v:Value):Prop:=∃a n c,v= .tuple #[.slice a n c,.int .i64 e]/\n<=1000/\n<=c/\eu h' a n zl
def chkB (shops:Int)(xs:List Int):Bool:=(List.range xs.length).all fun i=>decide (0<=xs.getD i 0)&&decide (xs.getD i 0<=shops-1-i)
def VT (shops:Int)(xs:List Int):Int:=if 1<=shops/\shops<=12 then if(xs.length:Int)≠shops then 15 else if chkB shops xs then 0 else 3 else 6
theorem chkB_iff {shops:Int}:chkB shops xs=true<->∀i<xs.length,0<=xs.getD i 0/\xs.getD i 0<=shops-1-i:=by
 simp[chkB]
theorem getD_mem (h:i<xs.length):xs.getD i 0∈xs:=by rw[List.getD,List.getElem?_eq_getElem h];exact List.getElem_mem h
theorem mem_getD (h:x∈xs):∃i<xs.length,xs.getD i 0=x:=by
 obtain⟨i,hi,he⟩:=List.getElem_of_mem h;exact⟨i,hi,by rw[List.getD,List.getElem?_eq_getElem hi];exact he⟩
theorem chkE_ok {shops:Int}(h:VT shops xs=0):∃n:Nat,shops=n/\1<=n/\n<=12/\xs.length=n/\zs (natL xs)=xs/\fits n (natL xs):=by
 unfold VT at h;split at h
 .rename_i hs;split at h
  .omega
  .rename_i hl;split at h
   .rename_i hb;rw[chkB_iff]at hb;refine⟨shops.toNat,by omega,by omega,by omega,by omega,zs_natL fun x hx=> ?_,fits_of _ _ fun i hi=> ?_⟩
    .obtain⟨i,hi,rfl⟩:=mem_getD hx;exact(hb i hi).1
    .rw[natL_length]at hi;have:=hb i hi;rw[natL_get];omega
   .omega
 .omega
theorem openE_ne {n:Int}:openE n []≠0<->¬(1<=n/\n<=12):=by
 rw[openE_nil'];split<;>simp_all
theorem checkCode23 (shops:Int)(a:Option Addr)(n c:Nat)(xs:List Int)(h:Eng.Heap)(hv:eu h a n xs)(hl:n<=1000000):
 ak Tryz.prog 21 #[.int .i64 shops,.slice a n c] h (fun v h'=>v= .int .i64 (VT shops xs)/\Ext h h'):=by
 have hn:=hv.len
 (refine Rm Tryz.func21 rfl bod21 ?_;simp only[Tryz.ntmps21,Tryz.results21,coreS,U1,splice,Value.cells,Value.oneCell',Nat.reduceAdd,Nat.reduceSub,Nat.reduceMul,Nat.reduceLeDiff,Int.reduceEq,Nat.reduceEqDiff,YtljjlhbbcjjmlaaGreatDoorTOFs21])
 refine ak.mono (open59 shops none 0 0 [] h (eu.nil h) (by omega)) ?_;rintro v h1 ⟨x1,⟨h0,b,rfl,hb,hb2⟩|⟨hne,rfl⟩⟩
 .have hsh:1<=shops/\shops<=12:=by
   have:=openE_ne (n:=shops);omega
  simp only[h0,coreS,Value.cells,Value.oneCell',Nat.reduceAdd,Nat.reduceSub,Nat.reduceMul,Nat.reduceLeDiff,Int.reduceEq,Nat.reduceEqDiff,YtljjlhbbcjjmlaaGreatDoorTOFs21];refine⟨fun heq=> ?_,fun hne=> ?_⟩
  .have hxl:¬((xs.length:Int)≠shops):=by omega
   refine zAi [4,7,8,25,26,27,28,29,30,31,32,33,34,35,36,37,38] (fun g h'=>∃i:Nat,i<=n/\g 25= .int .i64 i/\Ext h h'/\∀j<i,0<=xs.getD j 0/\xs.getD j 0<=shops-1-j) (fun g _=>match g 25 with| .int _ m=>n-m.toNat|_=>0) ⟨0,by omega,rfl,x1,fun j hj=>by omega⟩ ?_;rintro g h' ⟨i,hi,hg,x,hno⟩;simp only[hg,coreS,Value.cells,Value.oneCell',Nat.reduceAdd,Nat.reduceSub,Nat.reduceMul,Nat.reduceLeDiff,Int.reduceEq,Nat.reduceEqDiff,YtljjlhbbcjjmlaaGreatDoorTOFs21];refine⟨fun hlt=> ?_,fun hge=> ?_⟩
   .have hil:i<xs.length:=by omega
    simp only[(hv.ext x).cell hil,coreS,Value.cells,Value.oneCell',Nat.reduceAdd,Nat.reduceSub,Nat.reduceMul,Nat.reduceLeDiff,Int.reduceEq,Nat.reduceEqDiff,YtljjlhbbcjjmlaaGreatDoorTOFs21]
    repeat (refine And.intro (by first|omega|(rw[zBS];omega)|rfl|assumption|(exact(hv.ext x).isSome (by omega))) ?_)
    refine ak.mono (within60 0 (shops-1-i) _ _ _ [xs.getD i 0] _ intsV_one (by omega)) ?_;rintro v h2 ⟨rfl,x2⟩
    replace x2:=x2.zBe
    cases hb:inB 0 (shops-1-i) [xs.getD i 0]
    .simp only[Bool.not_false,coreS,Value.cells,Value.oneCell',Nat.reduceAdd,Nat.reduceSub,Nat.reduceMul,Nat.reduceLeDiff,Int.reduceEq,Nat.reduceEqDiff,YtljjlhbbcjjmlaaGreatDoorTOFs21];refine⟨?_,x.trans x2⟩;rw[VT,if_pos hsh,if_neg hxl,if_neg];rw[chkB_iff];intro H;have:=H i hil;rw[inB_one']at hb;omega
    .simp only[Bool.not_true,coreS,Value.cells,Value.oneCell',Nat.reduceAdd,Nat.reduceSub,Nat.reduceMul,Nat.reduceLeDiff,Int.reduceEq,Nat.reduceEqDiff,YtljjlhbbcjjmlaaGreatDoorTOFs21];refine⟨by rw[zBS];omega,Zr (by kernel_rfl) ⟨i+1,by omega,rfl,x.trans x2,fun j hj=> ?_⟩ ?_⟩
     .rcases Nat.lt_or_ge j i with h3|h3
      .exact hno j h3
      .have:j=i:=by omega
       subst this;rw[inB_one]at hb;omega
     .show n-((i:Int)+1).toNat<n-(i:Int).toNat;omega
   .refine⟨?_,x⟩;rw[VT,if_pos hsh,if_neg hxl,if_pos];rw[chkB_iff];exact fun j hj=>hno j (by omega)
  .refine⟨?_,x1⟩;rw[VT,if_pos hsh,if_pos (by omega)]
 .have hsh:=openE_ne.1 hne;have e6:openE shops []=6:=by rw[openE_nil',if_neg hsh]
  simp only[e6,coreS,Value.cells,Value.oneCell',Nat.reduceAdd,Nat.reduceSub,Nat.reduceMul,Nat.reduceLeDiff,Int.reduceEq,Nat.reduceEqDiff,YtljjlhbbcjjmlaaGreatDoorTOFs21];refine⟨?_,x1⟩;rw[VT,if_neg hsh]
def ordZ (shops:Int)(xs:List Int):List Int:=if VT shops xs=0 then zs (ordF (List.range shops.toNat) (natL xs))else[]
theorem listP_err {e:Int}{zl:List Int}(h':Eng.Heap)(hz:zl=[]):ListP e zl h' (.tuple #[.slice none 0 0,.int .i64 e]):=⟨none,0,0,rfl,by omega,by omega,by rw[hz];exact eu.nil _⟩
theorem order19 (shops:Int)(a:Option Addr)(n c:Nat)(xs:List Int)(h:Eng.Heap)(hv:eu h a n xs)(hl:n<=1000000):
 ak Tryz.prog 7 #[.int .i64 shops,.slice a n c] h (fun v h'=>Ext h h'/\ListP (VT shops xs) (ordZ shops xs) h' v):=by
 have hn:=hv.len
 (refine Rm Tryz.func7 rfl bod7 ?_;simp only[Tryz.ntmps7,Tryz.results7,coreS,U1,splice,Value.cells,Value.oneCell',Nat.reduceAdd,Nat.reduceSub,Nat.reduceMul,Nat.reduceLeDiff,Int.reduceEq,Nat.reduceEqDiff,YtljjlhbbcjjmlaaGreatDoorTOFs7])
 refine ak.mono (checkCode23 shops a n c xs h hv hl) ?_;rintro v h1 ⟨rfl,x1⟩;by_cases h0:VT shops xs=0
 .have h0':=h0;obtain⟨k,rfl,hk1,hk2,hxl,hz,hf⟩:=chkE_ok h0;simp only[h0,coreS,Value.cells,Value.oneCell',Nat.reduceAdd,Nat.reduceSub,Nat.reduceMul,Nat.reduceLeDiff,Int.reduceEq,Nat.reduceEqDiff,YtljjlhbbcjjmlaaGreatDoorTOFs7];refine ak.mono (newRound52 k hk1 hk2 h1) ?_;rintro v h2 ⟨b,rfl,hb,hb2,x2⟩;simp only[coreS,Value.cells,Value.oneCell',Nat.reduceAdd,Nat.reduceSub,Nat.reduceMul,Nat.reduceLeDiff,Int.reduceEq,Nat.reduceEqDiff,YtljjlhbbcjjmlaaGreatDoorTOFs7];have R0:=Rnd0.new hk1 hk2 hb;have hbl:=bA hb;have hv2:=hv.ext (x1.trans x2);refine zAi [8,10,21,22,23,24,25,26,27,28,29,30,31,32,33,34,35,36] (fun g h'=>∃i:Nat,i<=n/\g 21= .int .i64 i/\Ext h h'/\h2.size<=h'.size/\Rnd0 h' b k (aft (List.range k) ((natL xs).take i))/\∃a2 c2,g 8= .slice a2 i c2/\eG h2.size h' 3 a2 i c2 (zs (ordF (List.range k) ((natL xs).take i)))) (fun g _=>match g 21 with| .int _ m=>n-m.toNat|_=>0) ⟨0,by omega,rfl,x1.trans x2,Nat.le_refl _,R0,none,0,rfl,eG.nil _ _ _⟩ ?_;rintro g h' ⟨i,hi,hg,x,hsz,R,a2,c2,hg8,O⟩;simp only[hg,hg8,coreS,Value.cells,Value.oneCell',Nat.reduceAdd,Nat.reduceSub,Nat.reduceMul,Nat.reduceLeDiff,Int.reduceEq,Nat.reduceEqDiff,YtljjlhbbcjjmlaaGreatDoorTOFs7];refine⟨fun hlt=> ?_,fun hge=> ?_⟩
  .have hil:i<xs.length:=by omega
   have hil2:i<(natL xs).length:=by rw[natL_length];exact hil
   have hx0:xs.getD i 0=(((natL xs).getD i 0:Nat):Int):=by
    conv=>lhs;rw[<-hz]
    rw[zs_get]
   obtain⟨m,hm⟩:∃m,m=(natL xs).getD i 0:=⟨_,rfl⟩;rw[<-hm]at hx0;obtain⟨L,hL⟩:∃L,L=aft (List.range k) ((natL xs).take i):=⟨_,rfl⟩;rw[<-hL]at R;have hLl:L.length=k-i:=by
    rw[hL,aft_length _ _ (by rw[List.length_range];exact fits_take _ _ _ hf),List.length_range,List.length_take,natL_length];omega
   have hmL:m<L.length:=by rw[hLl,hm];exact fits_get _ _ _ hf hil2
   simp only[(hv.ext x).cell hil,hx0,coreS,Value.cells,Value.oneCell',Nat.reduceAdd,Nat.reduceSub,Nat.reduceMul,Nat.reduceLeDiff,Int.reduceEq,Nat.reduceEqDiff,YtljjlhbbcjjmlaaGreatDoorTOFs7]
   repeat (refine And.intro (by first|omega|(rw[zBS];omega)|rfl|assumption|(exact(hv.ext x).isSome (by omega))) ?_)
   refine zB9 (by kernel_rfl) zBp [(0,3),(1,3),(2,3),(3,3),(4,3),(5,3),(6,0),(7,0),(8,1),(9,1),(10,1),(11,0)] (by kernel_rfl) rfl (by kernel_rfl) ?_;simp only[coreS,Value.cells,Value.oneCell',Nat.reduceAdd,Nat.reduceSub,Nat.reduceMul,Nat.reduceLeDiff,Int.reduceEq,Nat.reduceEqDiff,drawS,YtljjlhbbcjjmlaaGreatDoorTOFs7]
   repeat (refine And.intro (by first|omega|(rw[zBS];omega)|rfl|assumption|(exact O.cap)|(exact_mod_cast O.cap)) ?_)
   have e0:(if(i:Int)=((0:Nat):Int)then a2 else lg a2 0)=a2:=by rw[eltP_zero];split<;>rfl
   have ei:((i:Int)-((0:Nat):Int)).toNat=i:=by omega
   rw[e0,ei];refine ak.mono (Rnd0.pass hk1 hk2 R hmL) ?_;rintro v h3 ⟨rfl,c3,R3⟩;simp only[coreS,Value.cells,Value.oneCell',Nat.reduceAdd,Nat.reduceSub,Nat.reduceMul,Nat.reduceLeDiff,Int.reduceEq,Nat.reduceEqDiff,drawS,YtljjlhbbcjjmlaaGreatDoorTOFs7]
   repeat (refine And.intro (by first|omega|(rw[zBS];omega)|rfl|assumption) ?_)
   have O3:eG h2.size h3 3 a2 i i (zs (ordF (List.range k) ((natL xs).take i))):=(O.keep fun p hp=>c3.old _ (O.lt hp).1 (by have:=(O.lt hp).2;omega)).cut;have O3':=O3.ext ((Ext.refl h3).push (.cells #[.int .i64 (L.getD m 0:Nat)] 3));have x3:=Chg.fresh x c3 (by have:=x1.size;omega);have s3:h2.size<=h3.size:=Nat.le_trans hsz c3.size;refine app22 rfl rfl O3' (by simp;omega) intsV_one (by omega) fun a4 c4 h4 O4 A=> ?_
   simp only[Ye,coreS,Value.cells,Value.oneCell',Nat.reduceAdd,Nat.reduceSub,Nat.reduceMul,Nat.reduceLeDiff,Int.reduceEq,Nat.reduceEqDiff,drawS,YtljjlhbbcjjmlaaGreatDoorTOFs7];have hb4:h4[b]? =h3[b]? :=by
    have h5:(h3.push (.cells #[.int .i64 (L.getD m 0:Nat)] 3))[b]? =h3[b]? :=by
     rw[uo,if_neg];have:=R3.lt;omega
    rw[<-h5];refine A.old b (by have:=R3.lt;simp;omega) fun p hp=> ?_
    have:=(O3'.lt hp).2;omega
   refine⟨by rw[zBS];omega,Zr (by kernel_rfl) ⟨i+1,by omega,rfl,A.extN O3' (x3.push _) (Nat.le_trans x1.size x2.size),Nat.le_trans s3 (Nat.le_trans (by simp) A.size),?_,a4,c4,rfl,?_⟩ ?_⟩
   .rw[take_next hil2,aft_snoc,<-hL,<-hm];exact R3.get hb4
   .rw[take_next hil2,ordF_snoc,zs_append,<-hL,<-hm];exact O4
   .show n-((i:Int)+1).toNat<n-(i:Int).toNat;omega
  .have:i=n:=by omega
   subst this;rw[List.take_of_length_le (by rw[natL_length];omega)]at O;refine⟨x,a2,_,c2,rfl,by omega,O.cap,?_⟩;rw[ordZ,if_pos h0',Int.toNat_natCast];exact O.ints
 .simp only[h0,coreS,Value.cells,Value.oneCell',Nat.reduceAdd,Nat.reduceSub,Nat.reduceMul,Nat.reduceLeDiff,Int.reduceEq,Nat.reduceEqDiff,YtljjlhbbcjjmlaaGreatDoorTOFs7];exact⟨x1,listP_err _ (if_neg h0)⟩
end
end Go.Proofs.YtljjlhbbcjjmlaaGreatDoor
