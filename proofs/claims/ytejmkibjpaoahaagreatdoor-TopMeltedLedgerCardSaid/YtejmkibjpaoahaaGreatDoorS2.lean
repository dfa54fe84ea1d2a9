/- Lemmas. No condition. -/
import Derived.Test.YtejmkibjpaoahaaGreatDoorOk
import Derived.Test.YtejmkibjpaoahaaGreatDoorS1
import Derived.RangeFuncIn
import Derived.LoopNIn
import Derived.ProofKit
import Derived.Laws.Externs
open Go.Value renaming oneCell'→af,cells→aC,int→lN,agg→zbk
open And renaming intro→aD
open Go.Proofs.Tryz renaming prog→aF,underlying33→dM,underlying48→vC,underlying58→vE
open List renaming getElem?_eq_getElem→aY,length_cons→aZ,length_nil→bv,take_of_length_le→bD,nil_append→bK,append_nil→bL,replicate→bQ,getElem_mem→bS,cons_append→cz,length_append→cK,mem_cons_of_mem→cZ,mem_cons_self→dn,drop→dG,take→dL,mem_cons→ek,mem_of_mem_take→eB,length_take→eD,map_append→eF,append_assoc→eQ,mem_map→gL,map_cons→ib,getD→iq,range→kD,take_append_of_le_length→kE,getElem?_eq_none→kL,take_append_drop→kM,not_mem_nil→kY,length_drop→mI,drop_succ_cons→nY,take_succ_cons→pq,getElem?_map→uE,getElem?_set→vk,drop_drop→wm,drop_zero→ww,append_toArray→xz,map_nil→xW,drop_left→zw,take_zero→zA,length_replicate→zL,length_set→Dn,ext_getElem→MO,mem_flatMap→NE,getElem?_range→Xn,map_replicate→YF,map_take→Za,filter_cons→zaw,map_toArray→zay,nodup_cons→zaI,range_succ→zaJ,take_left→zaR
open Int renaming toNat_natCast→bi
open Bool renaming not_true→bE,not_false→bP
open Nat renaming le_refl→bM,lt_of_lt_of_le→sD,le_trans→yw
open Array renaming length_toList→fo,empty_append→lX,append_empty→qb,getElem?_setIfInBounds_ne→rf,toList_inj→zS
open Go.Result renaming andThen_ok→nX,andThen→wF
open Go.Sem renaming run_bind→qm,run_pure→sQ
open Go.Obj renaming cells→KW
open Go.Instr renaming beginRound→zau,enterLoop→zaD,endRound→zaN,endLoop→zaY,getLoop→zaZ
set_option linter.unusedSimpArgs false
set_option linter.unusedVariables false
set_option linter.defProp false
section
namespace Go.Proofs.YtejmkibjpaoahaaGreatDoor
open Go Go.Proofs Go.Eng Go.Run Tab RL
set_option maxRecDepth 100000
set_option linter.unusedSimpArgs false
set_option linter.unusedVariables false
set_option linter.defProp false
set_option maxHeartbeats 2000000
set_option linter.defProp false
def zOg:=(aD @Tryz.underlying57 @Tryz.underlying58)
def zOh:=(aD (aD (aD @zSO @zVE) (aD @zVF (aD @zPW @zXw))) (aD (aD @zXx (aD @zPq @zWf)) (aD @zWh (aD @Tryz.underlying58 @Tryz.underlying122))))
def zOi:=(aD (aD @by2 (aD @zP0 @sz2)) (aD @zQv (aD @Tryz.underlying48 @Tryz.underlying57)))
def zOq:=(aD @zPc (aD @zPW @zPq))
def zOr:=(aD (aD (aD @zPd @by2) (aD @zP8 @zP9)) (aD (aD @zP0 @sz2) (aD @zQv @Tryz.underlying48)))
def zOj:=(aD (aD @zPc @zQk) (aD @zQl (aD @zPW @zPq)))
def zO8:=(aD (aD @zPc @zUr) (aD @zPW (aD @zPq @Tryz.underlying58)))
def zO9:=(aD (aD @zPd @by2) (aD @zP0 (aD @sz2 @Tryz.underlying48)))
def zOs:=(aD @zPd (aD @zP0 @sz2))
def zOa:=(aD (aD @zSI @zSj) (aD @zR7 (aD @zTO @Tryz.underlying57)))
theorem zXh (a:Option Addr)(n c:Nat)(xs:List Int)(q:FuncId)(caps:Array Value)(h:Eng.Heap)(hs:eu h a n xs)(hl:n<=1000)
 (hq:∀x∈xs,∀h',Ext h h'->ak aF q (#[]++ #[.int .i64 x]++caps) h' (fun v h''=>v= .bool false/\Ext h' h'')):
 ak aF 298 #[.slice a n c,.func (.func q) #[] caps] h (fun v h'=>v= .int .i64 (-1)/\Ext h h'):=by
 have hn:=hs.len
 (refine Rm Tryz.func298 rfl zX6 ?_;simp only[Tryz.ntmps298,Tryz.results298,coreS,U1,splice,aC,af,Nat.reduceAdd,Nat.reduceSub,Nat.reduceMul,Nat.reduceLeDiff,Int.reduceEq,Nat.reduceEqDiff,zO9])
 refine zAi [4,5,8,9,10,11,12,13,14,15,16,17,18] (fun g h'=>∃i:Nat,i<=n/\g 8= .int .i64 i/\Ext h h') (fun g _=>match g 8 with| .int _ m=>n-m.toNat|_=>0) ⟨0,by omega,rfl,Ext.refl h⟩ ?_;rintro g h' ⟨i,hin,hg8,hx⟩;simp only[hg8,coreS,aC,af,Nat.reduceAdd,Nat.reduceSub,Nat.reduceMul,Nat.reduceLeDiff,Int.reduceEq,Nat.reduceEqDiff,zO9];refine⟨fun hlt=> ?_,fun hge=>hx⟩;have hi:i<xs.length:=by omega
 simp only[(hs.ext hx).cell hi,coreS,aC,af,Nat.reduceAdd,Nat.reduceSub,Nat.reduceMul,Nat.reduceLeDiff,Int.reduceEq,Nat.reduceEqDiff,zO9];refine⟨by omega,(hs.ext hx).isSome (by omega),?_⟩;refine ak.mono (hq (xs.getD i 0) (by simp[iq,aY hi]) _ hx) ?_;rintro v h2 ⟨rfl,hx2⟩;simp only[hg8,coreS,aC,af,Nat.reduceAdd,Nat.reduceSub,Nat.reduceMul,Nat.reduceLeDiff,Int.reduceEq,Nat.reduceEqDiff,zO9];refine⟨by rw[zBS];omega,Zr (by kernel_rfl) ⟨i+1,by omega,rfl,hx.trans hx2⟩ ?_⟩;show n-((i:Int)+1).toNat<n-(i:Int).toNat;omega
theorem zXg (a:Option Addr)(n c:Nat)(o:List Int)(q:FuncId)(h:Eng.Heap)(hs:Row h a (ints o))(ho:o.length=2*n)(hl:n<=1000)
 (hq:∀i,i<n->∀h',Ext h h'->ak aF q (#[]++ #[rgV (lo o i) (hi o i)]++ #[]) h' (fun v h''=>v= .bool false/\Ext h' h'')):
 ak aF 248 #[.slice a n c,.func (.func q) #[] #[]] h (fun v h'=>v= .int .i64 (-1)/\Ext h h'):=by
 (refine Rm Tryz.func248 rfl zX5 ?_;simp only[Tryz.ntmps248,Tryz.results248,coreS,U1,splice,aC,af,Nat.reduceAdd,Nat.reduceSub,Nat.reduceMul,Nat.reduceLeDiff,Int.reduceEq,Nat.reduceEqDiff,zO8])
 refine zAi [4,5,8,9,10,11,12,13,14,15,16,17,18] (fun g h'=>∃i:Nat,i<=n/\g 8= .int .i64 i/\Ext h h') (fun g _=>match g 8 with| .int _ m=>n-m.toNat|_=>0) ⟨0,by omega,rfl,Ext.refl h⟩ ?_;rintro g h' ⟨i,hin,hg8,hx⟩;simp only[hg8,coreS,aC,af,Nat.reduceAdd,Nat.reduceSub,Nat.reduceMul,Nat.reduceLeDiff,Int.reduceEq,Nat.reduceEqDiff,zO8];refine⟨fun hlt=> ?_,fun hge=>hx⟩;obtain⟨g0,off,rfl⟩:=Row.addr hs (by rw[aR];omega);have hc1:=rgK (hs.ext hx) (j:=i) (by omega);simp only[gK,hc1,coreS,aC,af,Nat.reduceAdd,Nat.reduceSub,Nat.reduceMul,Nat.reduceLeDiff,Int.reduceEq,Nat.reduceEqDiff,zO8];refine⟨by omega,rfl,?_⟩;refine ak.mono (hq i (by omega) _ hx) ?_;rintro v h2 ⟨rfl,hx2⟩;simp only[hg8,coreS,aC,af,Nat.reduceAdd,Nat.reduceSub,Nat.reduceMul,Nat.reduceLeDiff,Int.reduceEq,Nat.reduceEqDiff,zO8];refine⟨by rw[zBS];omega,Zr (by kernel_rfl) ⟨i+1,by omega,rfl,hx.trans hx2⟩ ?_⟩;show n-((i:Int)+1).toNat<n-(i:Int).toNat;omega
theorem zXi (a:Option Addr)(n c:Nat)(es:List En)(q:FuncId)(h:Eng.Heap)(hs:Row h a (zOS es))(hn:n=es.length)(hl:n<=1000)
 (hq:∀e∈es,∀h',Ext h h'->ak aF q (#[]++ #[enA e]++ #[]) h' (fun v h''=>v= .bool false/\Ext h' h'')):
 ak aF 317 #[.slice a n c,.func (.func q) #[] #[]] h (fun v h'=>v= .int .i64 (-1)/\Ext h h'):=by
 (refine Rm Tryz.func317 rfl zX9 ?_;simp only[Tryz.ntmps317,Tryz.results317,coreS,U1,splice,aC,af,Nat.reduceAdd,Nat.reduceSub,Nat.reduceMul,Nat.reduceLeDiff,Int.reduceEq,Nat.reduceEqDiff,zOa])
 refine zAi [4,5,8,9,10,11,12,13,14,15,16,17,18] (fun g h'=>∃i:Nat,i<=n/\g 8= .int .i64 i/\Ext h h') (fun g _=>match g 8 with| .int _ m=>n-m.toNat|_=>0) ⟨0,by omega,rfl,Ext.refl h⟩ ?_;rintro g h' ⟨i,hin,hg8,hx⟩;simp only[hg8,coreS,aC,af,Nat.reduceAdd,Nat.reduceSub,Nat.reduceMul,Nat.reduceLeDiff,Int.reduceEq,Nat.reduceEqDiff,zOa];refine⟨fun hlt=> ?_,fun hge=>hx⟩;have hi:i<es.length:=by omega
 have hce:=zRj (hs.ext hx) hi;simp only[hce,coreS,aC,af,Nat.reduceAdd,Nat.reduceSub,Nat.reduceMul,Nat.reduceLeDiff,Int.reduceEq,Nat.reduceEqDiff,zOa];refine⟨by omega,hs.isSome (by rw[zOI];omega),?_⟩;refine ak.mono (hq es[i] (bS hi) _ hx) ?_;rintro v h2 ⟨rfl,hx2⟩;simp only[hg8,coreS,aC,af,Nat.reduceAdd,Nat.reduceSub,Nat.reduceMul,Nat.reduceLeDiff,Int.reduceEq,Nat.reduceEqDiff,zOa];refine⟨by rw[zBS];omega,Zr (by kernel_rfl) ⟨i+1,by omega,rfl,hx.trans hx2⟩ ?_⟩;show n-((i:Int)+1).toNat<n-(i:Int).toNat;omega
theorem zSn (a:Option Addr)(n c:Nat)(xs:List Int)(q:FuncId)(caps:Array Value)(h:Eng.Heap)(hs:eu h a n xs)(hl:n<=1000)
 (hq:∀x∈xs,∀h',Ext h h'->ak aF q (#[]++ #[.int .i64 x]++caps) h' (fun v h''=>v= .bool false/\Ext h' h'')):
 ak aF 302 #[.slice a n c,.func (.func q) #[] caps] h (fun v h'=>v= .bool false/\Ext h h'):=by
 (refine Rm Tryz.func302 rfl zX7 ?_;simp only[Tryz.ntmps302,Tryz.results302,coreS,U1,splice,aC,af,Nat.reduceAdd,Nat.reduceSub,Nat.reduceMul,Nat.reduceLeDiff,Int.reduceEq,Nat.reduceEqDiff])
 refine ak.mono (zXh a n c xs q caps h hs hl hq) ?_;rintro v h2 ⟨rfl,hx⟩;simp only[coreS,aC,af,Nat.reduceAdd,Nat.reduceSub,Nat.reduceMul,Nat.reduceLeDiff,Int.reduceEq,Nat.reduceEqDiff];exact⟨rfl,hx⟩
theorem zSl (a:Option Addr)(n c:Nat)(o:List Int)(q:FuncId)(h:Eng.Heap)(hs:Row h a (ints o))(ho:o.length=2*n)(hl:n<=1000)
 (hq:∀i,i<n->∀h',Ext h h'->ak aF q (#[]++ #[rgV (lo o i) (hi o i)]++ #[]) h' (fun v h''=>v= .bool false/\Ext h' h'')):
 ak aF 173 #[.slice a n c,.func (.func q) #[] #[]] h (fun v h'=>v= .bool false/\Ext h h'):=by
 (refine Rm Tryz.func173 rfl zXZ ?_;simp only[Tryz.ntmps173,Tryz.results173,coreS,U1,splice,aC,af,Nat.reduceAdd,Nat.reduceSub,Nat.reduceMul,Nat.reduceLeDiff,Int.reduceEq,Nat.reduceEqDiff])
 refine ak.mono (zXg a n c o q h hs ho hl hq) ?_;rintro v h2 ⟨rfl,hx⟩;simp only[coreS,aC,af,Nat.reduceAdd,Nat.reduceSub,Nat.reduceMul,Nat.reduceLeDiff,Int.reduceEq,Nat.reduceEqDiff];exact⟨rfl,hx⟩
theorem zSm (a:Option Addr)(n c:Nat)(es:List En)(q:FuncId)(h:Eng.Heap)(hs:Row h a (zOS es))(hn:n=es.length)(hl:n<=1000)
 (hq:∀e∈es,∀h',Ext h h'->ak aF q (#[]++ #[enA e]++ #[]) h' (fun v h''=>v= .bool false/\Ext h' h'')):
 ak aF 247 #[.slice a n c,.func (.func q) #[] #[]] h (fun v h'=>v= .bool false/\Ext h h'):=by
 (refine Rm Tryz.func247 rfl zX4 ?_;simp only[Tryz.ntmps247,Tryz.results247,coreS,U1,splice,aC,af,Nat.reduceAdd,Nat.reduceSub,Nat.reduceMul,Nat.reduceLeDiff,Int.reduceEq,Nat.reduceEqDiff])
 refine ak.mono (zXi a n c es q h hs hn hl hq) ?_;rintro v h2 ⟨rfl,hx⟩;simp only[coreS,aC,af,Nat.reduceAdd,Nat.reduceSub,Nat.reduceMul,Nat.reduceLeDiff,Int.reduceEq,Nat.reduceEqDiff];exact⟨rfl,hx⟩
theorem zT2 (n lo hi:Int)(p q:Nat)(h:Eng.Heap)(hp:h[p]? =some (.cells #[.int .i64 lo] 2))(hq:h[q]? =some (.cells #[.int .i64 hi] 2))(hn:lo<=n/\n<=hi):
 ak aF 303 (#[]++ #[.int .i64 n]++ #[.pointer (some ⟨p,0,none⟩),.pointer (some ⟨q,0,none⟩)]) h (fun v h'=>v= .bool false/\Ext h h'):=by
 simp only[qb,lX,xz,cz,bK]
 (refine Rm Tryz.func303 rfl zX8 ?_;simp only[Tryz.ntmps303,Tryz.results303,coreS,U1,splice,aC,af,Nat.reduceAdd,Nat.reduceSub,Nat.reduceMul,Nat.reduceLeDiff,Int.reduceEq,Nat.reduceEqDiff,zOs])
 simp only[hp,hq,coreS,aC,af,Nat.reduceAdd,Nat.reduceSub,Nat.reduceMul,Nat.reduceLeDiff,Int.reduceEq,Nat.reduceEqDiff,zOs];refine⟨fun h1=>absurd h1 (by omega),fun h1=>⟨?_,Ext.refl h⟩⟩;simp only[show¬hi<n by omega,decide_false]
theorem zR3 (lo hi:Int)(a:Option Addr)(n c:Nat)(xs:List Int)(h:Eng.Heap)(hs:eu h a n xs)(hl:n<=1000)(hx:∀x∈xs,lo<=x/\x<=hi):
 ak aF 214 #[.int .i64 lo,.int .i64 hi,.slice a n c] h (fun v h'=>v= .bool true/\Ext h h'):=by
 (refine Rm Tryz.func214 rfl zX2 ?_;simp only[Tryz.ntmps214,Tryz.results214,coreS,U1,splice,aC,af,Nat.reduceAdd,Nat.reduceSub,Nat.reduceMul,Nat.reduceLeDiff,Int.reduceEq,Nat.reduceEqDiff])
 refine ak.mono (zSn a n c xs 303 _ _ ((hs.push _).push _) hl ?_) ?_
 .intro x xm h' hx';exact zT2 x lo hi _ _ h' (hx'.get (by simp only[uo,Rh,Nat.left_eq_add,Nat.succ_ne_self,if_false,if_true])) (hx'.get (by simp only[uo,Rh,if_true])) (hx x xm)
 .rintro v h2 ⟨rfl,hx2⟩;simp only[coreS,aC,af,Nat.reduceAdd,Nat.reduceSub,Nat.reduceMul,Nat.reduceLeDiff,Int.reduceEq,Nat.reduceEqDiff];exact hx2.zBe.zBe
theorem zQd (a b m:Int)(h:Eng.Heap)(hw:isW a b m):ak aF 172 #[rgV a b,.int .i64 m] h (fun v h'=>v= .bool true/\Ext h h'):=by
 unfold rgV isW at *
 (refine Rm Tryz.func172 rfl zXY ?_;simp only[Tryz.ntmps172,Tryz.results172,coreS,U1,splice,aC,af,Nat.reduceAdd,Nat.reduceSub,Nat.reduceMul,Nat.reduceLeDiff,Int.reduceEq,Nat.reduceEqDiff,zOr])
 have q2:=jD (h:=h.push (.cells #[.int .i64 a,.int .i64 b] 115)) (o:= .cells #[.int .i64 a,.int .i64 b] 2);rw[Rh]at q2;have q1:=Jy (o:= .cells #[.int .i64 a,.int .i64 b] 2) (jD (h:=h) (o:= .cells #[.int .i64 a,.int .i64 b] 115));have x0:=((Ext.refl h).push (.cells #[.int .i64 a,.int .i64 b] 115)).push (.cells #[.int .i64 a,.int .i64 b] 2);generalize (h.push (.cells #[.int .i64 a,.int .i64 b] 115)).push (.cells #[.int .i64 a,.int .i64 b] 2)=H at q1 q2 x0 ⊢;refine ak.mono (zR3 0 m _ 2 2 [a,b] H (zQX q2) (by omega) (fun x hx=> ?_)) ?_
 .simp only[ek,kY,or_false]at hx;rcases hx with rfl|rfl<;>omega
 rintro v h2 ⟨rfl,x2⟩;simp only[x2.get q1,show a<=b by omega,decide_true,coreS,aC,af,Nat.reduceAdd,Nat.reduceSub,Nat.reduceMul,Nat.reduceLeDiff,Int.reduceEq,Nat.reduceEqDiff,zOr];exact x0.trans x2
theorem zV6 (a b:Int)(h:Eng.Heap)(hw:isW a b 1000000):ak aF 171 (#[]++ #[rgV a b]++ #[]) h (fun v h'=>v= .bool false/\Ext h h'):=by
 simp only[qb,lX];unfold rgV
 (refine Rm Tryz.func171 rfl zXX ?_;simp only[Tryz.ntmps171,Tryz.results171,coreS,U1,splice,aC,af,Nat.reduceAdd,Nat.reduceSub,Nat.reduceMul,Nat.reduceLeDiff,Int.reduceEq,Nat.reduceEqDiff,zOq])
 refine ak.mono (zQd a b 1000000 _ hw) ?_;rintro v h2 ⟨rfl,x2⟩;simp only[bE,coreS,aC,af,Nat.reduceAdd,Nat.reduceSub,Nat.reduceMul,Nat.reduceLeDiff,Int.reduceEq,Nat.reduceEqDiff,zOq];exact x2.zBe
theorem zWV (e:En)(h:Eng.Heap)(he:okM e):ak aF 246 (#[]++ #[enA e]++ #[]) h (fun v h'=>v= .bool false/\Ext h h'):=by
 simp only[qb,lX];have hk:=zRV.1 he;unfold enA
 (refine Rm Tryz.func246 rfl zX3 ?_;simp only[Tryz.ntmps246,Tryz.results246,coreS,U1,splice,aC,af,Nat.reduceAdd,Nat.reduceSub,Nat.reduceMul,Nat.reduceLeDiff,Int.reduceEq,Nat.reduceEqDiff,zOj])
 refine ak.mono (zQd e.d e.f 1000 _ hk.1) ?_;rintro v h2 ⟨rfl,x2⟩;have q2:=x2.get jD;simp only[q2,bE,coreS,aC,af,Nat.reduceAdd,Nat.reduceSub,Nat.reduceMul,Nat.reduceLeDiff,Int.reduceEq,Nat.reduceEqDiff,zOj];refine ak.mono (zQd e.t e.a 1000 _ hk.2) ?_;rintro v h3 ⟨rfl,x3⟩;simp only[bE,coreS,aC,af,Nat.reduceAdd,Nat.reduceSub,Nat.reduceMul,Nat.reduceLeDiff,Int.reduceEq,Nat.reduceEqDiff,zOj];exact(x2.trans x3).zBe
theorem zVt (a:Option Addr)(n c:Nat)(es:List En)(h:Eng.Heap)(hr:Row h a (zOS es))(hn:n=es.length)(R:Rw es):
 ak aF 170 #[.slice a n c] h (fun v h'=>v= .int .i64 0/\Ext h h'):=by
 have hl:=R.len
 (refine Rm Tryz.func170 rfl zXW ?_;simp only[Tryz.ntmps170,Tryz.results170,coreS,U1,splice,aC,af,Nat.reduceAdd,Nat.reduceSub,Nat.reduceMul,Nat.reduceLeDiff,Int.reduceEq,Nat.reduceEqDiff,zOi])
 refine ak.mono (zR3 1 7 _ 1 1 [(n:Int)] _ (zPN jD) (by omega) (fun x hx=> ?_)) ?_
 .simp only[ek,kY,or_false]at hx;subst hx;omega
 rintro v h2 ⟨rfl,x2⟩
 replace x2:=x2.zBe
 simp only[bE,coreS,aC,af,Nat.reduceAdd,Nat.reduceSub,Nat.reduceMul,Nat.reduceLeDiff,Int.reduceEq,Nat.reduceEqDiff,zOi];refine ak.mono (zSm a n c es 246 h2 (hr.ext x2) hn (by omega) (fun e he h' _=>zWV e h' (R.all e he))) ?_;rintro v h3 ⟨rfl,x3⟩;simp only[coreS,aC,af,Nat.reduceAdd,Nat.reduceSub,Nat.reduceMul,Nat.reduceLeDiff,Int.reduceEq,Nat.reduceEqDiff,zOi];exact x2.trans x3
theorem zT0 (a:Option Addr)(n c:Nat)(es:List En)(b:Option Addr)(m d:Nat)(o:List Int)(h:Eng.Heap)(hr:Row h a (zOS es))(hn:n=es.length)(hb:Row h b (ints o))(hm:o.length=2*m)(S:Sc es o m):
 ak aF 114 #[.slice a n c,.slice b m d] h (fun v h'=>v= .int .i64 0/\Ext h h'):=by
 have hRl:=S.rw.len;have hml:=S.len
 (refine Rm Tryz.func114 rfl zXJ ?_;simp only[Tryz.ntmps114,Tryz.results114,coreS,U1,splice,aC,af,Nat.reduceAdd,Nat.reduceSub,Nat.reduceMul,Nat.reduceLeDiff,Int.reduceEq,Nat.reduceEqDiff,zOg])
 refine ak.mono (zVt a n c es h hr hn S.rw) ?_;rintro v h1 ⟨rfl,x1⟩;have e1:(m:Int)=(n:Int)+1:=by omega
 simp only[e1,decide_true,bE,coreS,aC,af,Nat.reduceAdd,Nat.reduceSub,Nat.reduceMul,Nat.reduceLeDiff,Int.reduceEq,Nat.reduceEqDiff,zOg];refine⟨by rw[zBS];omega,?_⟩;refine ak.mono (zSl b m d o 171 h1 (hb.ext x1) hm (by omega) (fun i hi h' _=>zV6 (lo o i) (Go.Proofs.YtejmkibjpaoahaaGreatDoor.hi o i) h' (S.all i hi))) ?_;rintro v h3 ⟨rfl,x3⟩;simp only[coreS,aC,af,Nat.reduceAdd,Nat.reduceSub,Nat.reduceMul,Nat.reduceLeDiff,Int.reduceEq,Nat.reduceEqDiff,zOg];exact x1.trans x3
def bkC (a:Option Addr)(n c:Nat)(o:List Int):List Value:= .slice a n c::ints o
theorem zUR {P:Program}{h:Eng.Heap}{er:Env}{ty t el ct:TypeId}(hu:P.underlying t=some (.slice el))(hz:dJ P el=some (.agg #[.int .i64 0,.int .i64 0]))
 {x:Operand} {g off c:Nat} {cur:List Value} {K:Value->Eng.Heap->Prop} (hx:ev er x= .slice (some ⟨g,off,none⟩) 8 c) (hb:h[g]? =some (.cells cur.toArray ct (0,0))) (hl:off+16<=cur.length)
 (H:∀h',h'[g]? =some (.cells (splice cur off (bQ 16 (.int .i64 0))).toArray ct (0,0))->Upd h h' g->K (.tuple #[]) h'):aI P (.call ⟨.builtin .clear,#[x],#[t]⟩) ty er h K:=by
 unfold aI;refine aD rfl fun w hw=> ?_
 subst hw;have hi:∃i,P.info? el=some i/\i.zero=some (.agg #[.int .i64 0,.int .i64 0]):=by
  unfold dJ at hz;cases hq:P.info? el with
  |none=>simp[hq]at hz
  |some i=>exact⟨i,rfl,by simpa[hq]using hz⟩
 obtain⟨i,hi,hz⟩:=hi;have hst:=run_storeCells_at P g off ct (bQ 16 (lN .i64 0)) 0 cur.toArray w hb (by simpa using hl) (fun x hx=>by rw[List.eq_of_mem_replicate hx];rfl);simp only[Nat.add_zero,zL]at hst;have e3:(Builtin.zeroCells (zbk #[.int .i64 0,.int .i64 0]).cells 8).toList=bQ 16 (lN .i64 0):=by
  unfold Builtin.zeroCells;rw[pW];simp[aC]
 have e4:cur.toArray.toList.take off++bQ 16 (lN .i64 0)++cur.toArray.toList.drop (off+16)=splice cur off (bQ 16 (.int .i64 0)):=by simp[splice]
 rw[e4]at hst;have h1:(Builtin.clear_ #[t] ty #[.slice (some ⟨g,off,none⟩) 8 c]).run P w= .ok (.tuple #[]) (w.setRow g (splice cur off (bQ 16 (.int .i64 0))).toArray):=by
  simp only[Builtin.clear_,qm,run_underlying hu];have hzv:(zeroValue el).run P w= .ok (.agg #[.int .i64 0,.int .i64 0]) w:=by simp[zeroValue,typeInfo,hi,hz]
  generalize bQ 16 (lN .i64 0)=L at e3 hst ⊢;simp[run_underlying hu,hzv,e3,hst]
 have:(execOp (ev er) {dst:=none,op:= .call ⟨.builtin .clear,#[x],#[t]⟩,type:=ty,pos:= "",after:= #[],guard:=none}).run P w= .ok (.value (.tuple #[])) (w.setRow g (splice cur off (bQ 16 (.int .i64 0))).toArray):=by
  have hargs: #[x].map (ev er)= #[.slice (some ⟨g,off,none⟩) 8 c]:=by simp[hx]
  simp only[execOp,resolve,invoke,builtin,qm,sQ,nX,hargs,h1]
 rw[this];exact⟨H _ (Go.Eng.setRow_heap hb _).1 (Go.Eng.setRow_heap hb _).2,rfl,rfl,rfl⟩
theorem zTb (a:Option Addr)(n c:Nat)(es:List En)(b:Option Addr)(m d:Nat)(o:List Int)(h:Eng.Heap)(hb:Row h b (ints o))(hm:o.length=2*m)(S:Sc es o m):
 ak aF 115 #[.slice a n c,.slice b m d] h (fun v h'=>∃g,v= .pointer (some ⟨g,0,none⟩)/\h.size<=g/\h'[g]? =some (.cells (bkC a n c (o++bQ (16-2*m) 0)).toArray 124)/\Ext h h'):=by
 have hRl:=S.rw.len;have hml:=S.len
 (refine Rm Tryz.func115 rfl zXK ?_;simp only[Tryz.ntmps115,Tryz.results115,coreS,U1,splice,aC,af,Nat.reduceAdd,Nat.reduceSub,Nat.reduceMul,Nat.reduceLeDiff,Int.reduceEq,Nat.reduceEqDiff,zOh])
 refine⟨by decide,by decide,by decide,by decide,?_⟩;refine zUR (g:=h.size) (off:=1) (c:=8) (cur:=bkC a n c (bQ 16 0)) (ct:=124) vE zQJ rfl jD (by simp[bkC,ints]) fun h2 g2 u2=> ?_
 simp only[g2,coreS,aC,af,Nat.reduceAdd,Nat.reduceSub,Nat.reduceMul,Nat.reduceLeDiff,Int.reduceEq,Nat.reduceEqDiff,zOh];have e2:splice (bkC a n c (bQ 16 0)) 1 (bQ 16 (.int .i64 0))=bkC a n c (bQ 16 0):=rfl;rw[e2]at g2;have x2:Ext h h2:=u2.ext ((Ext.refl h).push _) (bM _);refine⟨by decide,by decide,by decide,by decide,?_⟩;refine YB (s:=2) (g:=h.size) (off:=1) (n:=8) (c:=8) (m:=m) (cur:=bkC a n c (bQ 16 0)) (ys:=ints o) (ct:=124) vE vE zPW zPq rfl rfl g2 (by simp[bkC,ints]) (hb.ext x2) (by rw[aR];omega) (fun u hu=> ?_) fun h3 g3 u3=> ?_
 .have:=eB hu;simp only[ints,gL]at this;obtain⟨_,_,rfl⟩:=this;rfl
 have e3:splice (bkC a n c (bQ 16 0)) 1 ((ints o).take (8*2))=bkC a n c (o++bQ (16-2*m) 0):=by
  rw[bD (by rw[aR];omega)];unfold splice bkC ints;rw[List.length_map,show 1+o.length=o.length+1 by omega,nY,pq,zA,eF,YF,YF,List.drop_replicate,hm];rfl
 rw[e3]at g3;simp only[g3,coreS,aC,af,Nat.reduceAdd,Nat.reduceSub,Nat.reduceMul,Nat.reduceLeDiff,Int.reduceEq,Nat.reduceEqDiff,zOh];exact⟨h.size,rfl,bM _,g3,u3.ext x2 (bM _)⟩
theorem zVs (a:Option Addr)(n c:Nat)(es:List En)(b:Option Addr)(m d:Nat)(o:List Int)(h:Eng.Heap)(hr:Row h a (zOS es))(hn:n=es.length)(hb:Row h b (ints o))(hm:o.length=2*m)(S:Sc es o m):
 ak aF 59 #[.slice a n c,.slice b m d] h (fun v h'=>∃g,v= .tuple #[.pointer (some ⟨g,0,none⟩),.int .i64 0]/\h.size<=g/\h'[g]? =some (.cells (bkC a n c (o++bQ (16-2*m) 0)).toArray 124)/\Ext h h'):=by
 (refine Rm Tryz.func59 rfl zYj ?_;simp only[Tryz.ntmps59,Tryz.results59,coreS,U1,splice,aC,af,Nat.reduceAdd,Nat.reduceSub,Nat.reduceMul,Nat.reduceLeDiff,Int.reduceEq,Nat.reduceEqDiff])
 refine ak.mono (zT0 a n c es b m d o h hr hn hb hm S) ?_;rintro v h1 ⟨rfl,x1⟩;simp only[decide_true,bE,coreS,aC,af,Nat.reduceAdd,Nat.reduceSub,Nat.reduceMul,Nat.reduceLeDiff,Int.reduceEq,Nat.reduceEqDiff];refine ak.mono (zTb a n c es b m d o h1 (hb.ext x1) hm S) ?_;rintro v h2 ⟨g,rfl,hg,hc,x2⟩;simp only[coreS,aC,af,Nat.reduceAdd,Nat.reduceSub,Nat.reduceMul,Nat.reduceLeDiff,Int.reduceEq,Nat.reduceEqDiff];exact⟨g,rfl,yw x1.size hg,hc,x1.trans x2⟩
end Go.Proofs.YtejmkibjpaoahaaGreatDoor
end
section
set_option linter.unusedVariables false
set_option linter.unusedSimpArgs false
namespace Go.Eng
open Go
section yields
variable {P:Program}{l:Option Nat}{h:Heap}{e:Env}{d:List Deferred}{k:aj}
section
variable {Br:Code->Heap->Prop}{K:Value->Heap->Prop}{a b c:Code}{caps:Array Value}{f:Operand}{first:Array Value}{lo:Nat}{o:Obj}{ps:Array Tmp}{r:Nat}{rec:Loop}{rs:List ResultVar}{v:Value}{vs:List Value}{w:World}
def Aw (P:Program)(v:Value)(vs:List Value)(h:Heap)(K:Value->Heap->Prop):Prop:=
 ∀(er:Env) (f:Operand) (xs:Array Operand) (ats:Array TypeId) (ty:TypeId),ev er f=v->(xs.map (ev er)).toList=vs->aI P (.call ⟨.value f,xs,ats⟩) ty er h K
theorem Aw.run {K':Value->Heap->Prop}(H:Aw P v vs h K){er:Env}{xs:Array Operand}{ats:Array TypeId}{ty:TypeId}(hf:ev er f=v)(hx:(xs.map (ev er)).toList=vs)(hk:∀v h,K v h->K' v h):aI P (.call ⟨.value f,xs,ats⟩) ty er h K':=bH hk (H er f xs ats ty hf hx)
theorem Xg {args:Array Value}{F:Prop}:qB P (.func (.yield lo) first caps) args h K F=F:=by unfold qB;rfl
theorem kN (hr:w.heap[r]? =some (.loop rec)):(zaZ r).run P w= .ok rec w:=by
 simp[zaZ,getObj,Sem.run,hr,wF]
theorem ow (hr:w.heap[r]? =some (.loop rec))(o:Obj):(setObj r o).run P w= .ok () {w with heap:=w.heap.setIfInBounds r o}:=by
 simp[setObj,Sem.run,hr]
theorem Mo (hr:w.heap[r]? =some (.loop rec)){args:Array Value}(hs:args.size=rec.params.size):
 (Instr.yield r args).run P w= .ok (.round r rec.fn ((rec.params.zip args).foldl (fun tmps (x:Tmp×Value)=>tmps.setIfInBounds x.1 x.2) rec.tmps) rec.assign rec.body) w:=by
 simp[Instr.yield,kN hr,wF,hs]
theorem Mk (hr:w.heap[r]? =some (.loop rec))(hs:rec.state= .ready):
 (zau r).run P w= .ok () {w with heap:=w.heap.setIfInBounds r (.loop {rec with state:= .busy})}:=by
 simp[zau,kN hr,ow hr,wF,hs]
theorem uT (hr:w.heap[r]? =some (.loop rec))(j:Option Code):
 (zaN r j).run P w= .ok (.bool j.isNone) {w with heap:=w.heap.setIfInBounds r (.loop {rec with state:=if j.isNone then .ready else .done,pending:=j})}:=by
 simp[zaN,kN hr,ow hr,wF]
theorem FM (hr:w.heap[r]? =some (.loop rec))(hs:rec.state≠.busy):
 (zaY r).run P w= .ok rec.pending {w with heap:=w.heap.setIfInBounds r (.loop {rec with state:= .exhausted})}:=by
 have:(rec.state==LoopState.busy)=false:=by cases hst:rec.state<;>first|rfl|exact absurd hst hs
 simp[zaY,kN hr,ow hr,wF,this];intro hh;exact absurd hh hs
theorem Bv:∀(l:List (Tmp×Value)) (a:Array Value),(l.foldl (fun tmps (x:Tmp×Value)=>tmps.setIfInBounds x.1 x.2) a).toList=l.foldl (fun er (x:Tmp×Value)=>er.set x.1 x.2) a.toList
 |[],a=>rfl
 |x::l,a=>by
  simp only[List.foldl_cons];rw[Bv l];simp
theorem Lu {fn:FuncId}{tmps:Array Value}:(zaD fn tmps ps a b none).run P w= .ok (w.heap.size+1,[{target:= .collected w.heap.size,args:= #[]}])
 {w with heap:=(w.heap.push (.deferred (some []))).push (.loop {state:= .ready,pending:=none,fn,tmps,params:=ps,assign:=a,body:=b,defers:=w.heap.size})}:=by
 simp[zaD,newObj,Sem.run,wF];exact⟨rfl,rfl,rfl⟩
def binds:List Tmp->List Value->Env->Env
 |p::ps,v::vs,e=>binds ps vs (e.set p v)
 |_,_,e=>e
theorem YV {p:Tmp}{ps:List Tmp}{e:Env}:binds (p::ps) (v::vs) e=binds ps vs (e.set p v):=eqi rfl
theorem Zi {e:Env}:binds [] vs e=e:=by simp[binds]
theorem Gx:∀(ps:List Tmp) (vs:List Value) (e:Env),binds ps vs e=(ps.zip vs).foldl (fun er (x:Tmp×Value)=>er.set x.1 x.2) e
 |[],vs,e=>by simp[binds]
 |p::ps,[],e=>by simp[binds]
 |p::ps,v::vs,e=>by simp[binds,Gx ps vs]
def zAs (lo:Nat)(K:Value->Heap->Prop):aj:=fun x _ _ h=>∃rec,h[lo]? =some (.loop rec)/\match x with
 | .normal=>K (.bool true) (h.setIfInBounds lo (.loop {rec with state:= .ready,pending:=none}))
 | .ret=>K (.bool false) (h.setIfInBounds lo (.loop {rec with state:= .done,pending:=some .ret}))
 | .exit i=>K (.bool false) (h.setIfInBounds lo (.loop {rec with state:= .done,pending:=some (.exit i)}))
 | .goto i=>K (.bool false) (h.setIfInBounds lo (.loop {rec with state:= .done,pending:=some (.goto i)}))
 |_=>False
def zAk (P:Program)(lo:Nat)(body:Code)(K:Value->Heap->Prop):aj:=fun x e d h=>x= .normal/\∃rec,h[lo]? =some (.loop rec)/\rec.state= .ready/\
 exec (some lo) P body (zAs lo K) e d (h.setIfInBounds lo (.loop {rec with state:= .busy}))
theorem yZ (hr:h[lo]? =some (.loop rec))(hsz:vs.length=rec.params.size)(H:exec (some lo) P rec.assign (zAk P lo rec.body K) (binds rec.params.toList vs rec.tmps.toList) [] h):Aw P (.func (.yield lo) #[] #[]) vs h K:=by
 intro er f xs ats ty hf hx;unfold aI;refine aD rfl fun w hw=> ?_
 subst hw;have hargs:xs.map (ev er)=vs.toArray:=by apply zS.1;simpa using hx
 have hrun:(execOp (ev er) {dst:=none,op:= .call ⟨.value f,xs,ats⟩,type:=ty,pos:= "",after:= #[],guard:=none}).run P w= .ok (.round lo rec.fn ((rec.params.zip vs.toArray).foldl (fun tmps (x:Tmp×Value)=>tmps.setIfInBounds x.1 x.2) rec.tmps) rec.assign rec.body) w:=by
  have:=Mo (P:=P) hr (args:=vs.toArray) (by simpa using hsz);simp only[execOp,resolve,hf,Deferred.ofValue,invoke,qm,sQ,nX,hargs,lX,this]
 rw[hrun];refine⟨Eng.Rest.refl w,roundIn_of_wpIn trivial ?_⟩;have ha:=dI _ _ _ _ _ H;unfold WP at ha;have ha:=ha w rfl;have htm:(binds rec.params.toList vs rec.tmps.toList).toArray=((rec.params.zip vs.toArray).foldl (fun tmps (x:Tmp×Value)=>tmps.setIfInBounds x.1 x.2) rec.tmps):=by
  apply zS.1;rw[<-Array.foldl_toList,Bv,Gx];simp
 rw[<-htm];refine wpIn_mono ha ?_;rintro x1 a1 w1 ⟨⟨hx1,rec1,b1,b2,b3⟩,hr1⟩;subst hx1;refine⟨_,Mk (P:=P) b1 b2,?_⟩;have hb:=dI _ _ _ _ _ b3;unfold WP at hb;have hb:=hb {w1 with heap:=w1.heap.setIfInBounds lo (.loop {rec1 with state:= .busy})} rfl;rw[dA]at hb;refine wpIn_mono hb ?_;rintro x2 a2 w2 ⟨⟨rec2,c1,c2⟩,hr2⟩;have hrest:Eng.Rest w w2:=hr1.trans ⟨hr2.os,hr2.tape,hr2.output⟩;cases x2 with
 |normal=>exact⟨_,_,uT (P:=P) c1 none,_,rfl,c2,hrest.trans ⟨rfl,rfl,rfl⟩⟩
 |ret=>exact⟨_,_,uT (P:=P) c1 (some .ret),_,rfl,c2,hrest.trans ⟨rfl,rfl,rfl⟩⟩
 |exit i=>exact⟨_,_,uT (P:=P) c1 (some (.exit i)),_,rfl,c2,hrest.trans ⟨rfl,rfl,rfl⟩⟩
 |goto i=>exact⟨_,_,uT (P:=P) c1 (some (.goto i)),_,rfl,c2,hrest.trans ⟨rfl,rfl,rfl⟩⟩
 |_=>exact c2.elim
def mkD (r:Nat):Deferred:={target:= .collected r,args:= #[]}
def zA2 (l:Option Nat)(P:Program)(lo:Nat)(k:aj)(e:Env)(d:List Deferred)(h:Heap):Prop:=∃rec,h[lo]? =some (.loop rec)/\rec.state≠.busy/\(match rec.pending with
 |none=>k .normal e d (h.setIfInBounds lo (.loop {rec with state:= .exhausted}))
 |some j=>exec l P j k e d (h.setIfInBounds lo (.loop {rec with state:= .exhausted})))
theorem UA {gf:FuncId}(hf:ev e f= .func (.func gf) first caps)(H:∀fn:FuncId,ak P gf (first++ #[.func (.yield (h.size+1)) #[] #[]]++caps) ((h.push (.deferred (some []))).push (.loop {state:= .ready,pending:=none,fn,tmps:=e.toArray,params:=ps,assign:=a,body:=b,defers:=h.size}))
 (fun _ h2=>zA2 none P (h.size+1) k e (mkD h.size::d) h2)):WP none P (.rangeFunc f ps a b) k e d h:=by
 unfold WP;intro w hw;subst hw;refine wpIn_rangeFunc fun fn _=> ?_
 have hcl:=H fn;unfold ak at hcl;obtain⟨hbod,hcl⟩:=hcl;obtain⟨W1,hW1⟩:∃W1:World,W1={w with heap:=(w.heap.push (.deferred (some []))).push (.loop {state:= .ready,pending:=none,fn,tmps:=e.toArray,params:=ps,assign:=a,body:=b,defers:=w.heap.size})}:=⟨_,rfl⟩;have hcw:=hcl W1 (by rw[hW1]);unfold gP at hcw;refine⟨w.heap.size+1,[mkD w.heap.size],W1,⟨.fn (.func gf) caps,first++ #[.func (.yield (w.heap.size+1)) #[] #[]]⟩,W1,gf,first++ #[.func (.yield (w.heap.size+1)) #[] #[]]++caps,W1,?_,?_,fun _ _=>trivial,?_,fun hh=>by simp[kU]at hh,oV none ?_⟩
 .rw[hW1];exact Lu
 .have hev:ev e (.const (.func (.yield (w.heap.size+1)) #[] #[]))= .func (.yield (w.heap.size+1)) #[] #[]:=rfl;rw[dY];simp only[resolve,hf,Deferred.ofValue,sQ,zay,ib,xW,hev]
 .show(callFunc gf _).run P _=_;exact CE hbod _
 .refine Calls.mono hcw ?_;rintro e' w3 ⟨v,rfl,⟨rec,q1,q2,q3⟩,hr3⟩;have hr3:Eng.Rest w w3:=by rw[hW1]at hr3;exact⟨hr3.os,hr3.tape,hr3.output⟩
  refine⟨_,_,FM (P:=P) q1 q2,?_⟩;cases hp:rec.pending with
  |none=>
   rw[hp]at q3;exact⟨q3,⟨hr3.os,hr3.tape,hr3.output⟩⟩
  |some j=>
   rw[hp]at q3;have hb:=dI _ _ _ _ _ q3;unfold WP at hb;rw[<-hp]at hb;have hb:=hb {w3 with heap:=w3.heap.setIfInBounds (w.heap.size+1) (.loop {rec with state:= .exhausted})} rfl;rw[hp]at hb;refine wpIn_mono hb ?_;rintro x a' w4 ⟨c1,c2⟩;exact⟨c1,hr3.trans ⟨c2.os,c2.tape,c2.output⟩⟩
theorem DU {gf:FuncId}(hf:ev e f= .func (.func gf) first caps)(H:∀R:Loop,R.state= .ready->R.pending=none->R.tmps=e.toArray->R.params=ps->R.assign=a->R.body=b->R.defers=h.size->
 ak P gf (first++ #[.func (.yield (h.size+1)) #[] #[]]++caps) ((h.push (.deferred (some []))).push (.loop R)) (fun _ h2=>zA2 none P (h.size+1) k e (mkD h.size::d) h2)):WP none P (.rangeFunc f ps a b) k e d h:=
 UA hf fun fn=>H _ rfl rfl rfl rfl rfl rfl rfl
theorem Loop.back {R:Loop}(h1:R.state= .ready)(h2:R.pending=none):({({R with state:= .busy}:Loop)with state:= .ready,pending:=none}:Loop)=R:=by
 cases R;simp_all
def BA (k:aj):aj:=fun x e d h=>(∀i,x≠.goto i)/\k x e d h
theorem Uo:BA k .normal e d h=k .normal e d h:=eqi (propext ⟨fun H=>H.2,fun H=>⟨fun _ hi=>(by cases hi),H⟩⟩)
theorem YA:BA k .ret e d h=k .ret e d h:=eqi (propext ⟨fun H=>H.2,fun H=>⟨fun _ hi=>(by cases hi),H⟩⟩)
theorem XA {i:Nat}:BA k (.exit i) e d h=k (.exit i) e d h:=eqi (propext ⟨fun H=>H.2,fun H=>⟨fun _ hi=>(by cases hi),H⟩⟩)
theorem yT {body:Code}(hr:h[lo]? =some (.loop rec))(hs:rec.state= .ready)(H:exec (some lo) P body (zAs lo K) e d (h.setIfInBounds lo (.loop {rec with state:= .busy}))):zAk P lo body K .normal e d h:=
 ⟨rfl,rec,hr,hs,H⟩
theorem Upd.set {b:Nat}:Upd h (h.setIfInBounds b o) b:=⟨by simp,fun b' hb=>rf (Ne.symm hb)⟩
theorem mE {b:Nat}(hb:b<h.size):(h.setIfInBounds b o)[b]? =some o:=by simp[hb]
def zA4 (P:Program)(v:Value)(F:Heap->Prop)(xss:List (List Value)):Prop:=
 ∃q first caps,v= .func (.func q) first caps/\∀(lo:Nat) (h0:Heap) (J:Nat->Heap->Prop) (E:Heap->Prop),(∀i h',J i h'->F h')->J 0 h0->
  (∀i h' vs,xss[i]? =some vs->J i h'->Aw P (.func (.yield lo) #[] #[]) vs h' (fun v h''=>(v= .bool true/\J (i+1) h'')\/(v= .bool false/\E h'')))->
  ak P q (first++ #[.func (.yield lo) #[] #[]]++caps) h0 (fun _ h'=>J xss.length h'\/E h')
def U9 (lo:Nat)(o:Obj)(K:Heap->Prop)(Br:Code->Heap->Prop):aj:=fun x _ _ h=>h[lo]? =some o/\match x with
 | .normal=>K h
 | .ret=>Br .ret h
 | .exit i=>Br (.exit i) h
 |_=>False
def Yj (P:Program)(lo:Nat)(o:Obj)(b:Code)(K:Heap->Prop)(Br:Code->Heap->Prop):aj:=fun x e d h=>x= .normal/\h[lo]? =some o/\
 ∀h2 o2,Upd h h2 lo->h2[lo]? =some o2->exec (some lo) P b (U9 lo o2 K Br) e d h2
theorem Xj {K:Heap->Prop}:U9 lo o K Br .normal e d h=(h[lo]? =some o/\K h):=eqi rfl
theorem zA8 {K:Heap->Prop}:U9 lo o K Br .ret e d h=(h[lo]? =some o/\Br .ret h):=eqi rfl
theorem XG {K:Heap->Prop}:Yj P lo o b K Br .normal e d h=(h[lo]? =some o/\
 ∀h2 o2,Upd h h2 lo->h2[lo]? =some o2->exec (some lo) P b (U9 lo o2 K Br) e d h2):=eqi (propext ⟨fun H=>H.2,fun H=>⟨rfl,H⟩⟩)
theorem Zp {F:Heap->Prop}{xss:List (List Value)}(hf:ev e f=v)(hseq:zA4 P v F xss)(Inv:Nat->Heap->Prop)(Br:Code->Heap->Prop)(hps:∀vs∈xss,vs.length=ps.size)(hext:∀i h',Inv i h'->F h')(hupd:∀i h1 h2,Inv i h1->Upd h1 h2 (h.size+1)->Inv i h2)(bupd:∀j h1 h2,Br j h1->Upd h1 h2 (h.size+1)->Br j h2)(start:∀h',Ext h h'->h'[h.size]? =some (.deferred (some []))->h'.size=h.size+2->Inv 0 h')(round:∀i h' vs o,xss[i]? =some vs->Inv i h'->h'[h.size+1]? =some o->exec (some (h.size+1)) P a (Yj P (h.size+1) o b (Inv (i+1)) Br) (binds ps.toList vs e) [] h')(fin:∀h',Inv xss.length h'->k .normal e (mkD h.size::d) h')(brk:∀j h',Br j h'->exec none P j k e (mkD h.size::d) h'):WP none P (.rangeFunc f ps a b) k e d h:=by
 obtain⟨q,first,caps,rfl,hq⟩:=hseq;refine DU hf ?_;intro R R1 R2 R3 R4 R5 R6 R7;have hsz:(h.push (.deferred (some []))).size=h.size+1:=by simp
 refine ak.mono (hq (h.size+1) _ (fun i h'=>Inv i h'/\h'[h.size+1]? =some (.loop R)) (fun h'=>∃(rec:Loop) (j:Code),h'[h.size+1]? =some (.loop rec)/\rec.state= .done/\rec.pending=some j/\Br j h') (fun i h' H=>hext i h' H.1) ?_ ?_) ?_
 .refine⟨start _ (((Ext.refl h).push _).push _) (Jy jD) (by simp),?_⟩;have:=jD (h:=h.push (.deferred (some []))) (o:= .loop R);rwa[hsz]at this
 .rintro i h' vs hvs ⟨hI,hR⟩;refine yZ hR (by rw[R4];exact hps _ (List.mem_of_getElem? hvs)) ?_;rw[R3,R4,R5,R6,List.toList_toArray];refine eX a ?_ _ _ _ (round i h' vs _ hvs hI hR);rintro x e2 d2 h2 ⟨rfl,h2o,H⟩;refine yT h2o R1 ?_;refine eX b ?_ _ _ _ (H _ _ Upd.set (mE (bA h2o)));rintro x e3 d3 h3 ⟨h3o,H3⟩;cases x with
  |normal=>
   refine⟨_,h3o,?_⟩;refine .inl ⟨rfl,hupd _ _ _ H3 Upd.set,?_⟩;show(h3.setIfInBounds _ _)[_]? =_;rw[mE (bA h3o),Loop.back R1 R2]
  |ret=>
   refine⟨_,h3o,?_⟩;exact .inr ⟨rfl,_,_,mE (bA h3o),rfl,rfl,bupd _ _ _ H3 Upd.set⟩
  |exit j=>
   refine⟨_,h3o,?_⟩;exact .inr ⟨rfl,_,_,mE (bA h3o),rfl,rfl,bupd _ _ _ H3 Upd.set⟩
  |_=>exact H3.elim
 .rintro v h' (⟨hI,hR⟩|⟨rec,j,hR,hst,hpd,hB⟩)
  .refine⟨_,hR,by rw[R1];decide,?_⟩;rw[R2];exact fin _ (hupd _ _ _ hI Upd.set)
  .refine⟨_,hR,by rw[hst];decide,?_⟩;rw[hpd];exact brk _ _ (bupd _ _ _ hB Upd.set)
end
end yields
end Go.Eng
end
section
namespace Go.Proofs.YtejmkibjpaoahaaGreatDoor
open Go Go.Proofs Go.Eng Go.Run Tab RL
set_option maxRecDepth 100000
set_option linter.unusedSimpArgs false
set_option linter.unusedVariables false
set_option linter.defProp false
set_option maxHeartbeats 2000000
set_option linter.defProp false
def zOT:=(aD (aD (aD @zSI @zWl) (aD @zSj @zR7)) (aD (aD @zWp @zTO) (aD @zZP @Tryz.underlying57)))
def bwX (es:List En):List (List Value):=(kD es.length).map fun i=>[.int .i64 (es.length-1-i:Nat),enA (es.getD (es.length-1-i) ⟨0,0,0,0⟩)]
theorem zQ8 (es:List En):(bwX es).length=es.length:=by simp[bwX]
theorem zVl {es:List En}{i:Nat}{vs:List Value}(h:(bwX es)[i]? =some vs):∃h:i<es.length,vs=[.int .i64 (es.length-1-i:Nat),enA (es[es.length-1-i]'(by omega))]:=by
 have hi:i<es.length:=by
  have:=(List.getElem?_eq_some_iff.1 h).1;rwa[zQ8]at this
 refine⟨hi,?_⟩;rw[bwX,uE,Xn hi]at h;simp only[Option.map_some,Option.some.injEq]at h;rw[<-h];simp[iq,aY (show es.length-1-i<es.length by omega)]
theorem zXa (lo bx n c:Nat)(a:Option Addr)(es:List En)(h:Eng.Heap)(hn:n=es.length)(hl:n<=1000)(J:Nat->Eng.Heap->Prop)(E:Eng.Heap->Prop)
 (hx:∀i h',J i h'->h'[bx]? =some (.cells #[.slice a n c] 57)/\Row h' a (zOS es)) (hJ:J 0 h)
 (step:∀i h' vs,(bwX es)[i]? =some vs->J i h'->Aw aF (.func (.yield lo) #[] #[]) vs h' (fun v h''=>(v= .bool true/\J (i+1) h'')\/(v= .bool false/\E h''))):
 ak aF 174 (#[]++ #[.func (.yield lo) #[] #[]]++ #[.pointer (some ⟨bx,0,none⟩)]) h (fun _ h'=>J (bwX es).length h'\/E h'):=by
 simp only[qb,lX,xz,cz,bK];have hb:=(hx 0 h hJ).1
 (refine Rm Tryz.func174 rfl zX0 ?_;simp only[Tryz.ntmps174,Tryz.results174,coreS,U1,splice,aC,af,Nat.reduceAdd,Nat.reduceSub,Nat.reduceMul,Nat.reduceLeDiff,Int.reduceEq,Nat.reduceEqDiff,zOT])
 simp only[hb,coreS,aC,af,Nat.reduceAdd,Nat.reduceSub,Nat.reduceMul,Nat.reduceLeDiff,Int.reduceEq,Nat.reduceEqDiff,zOT];refine⟨by rw[zBS];omega,?_⟩;refine zAi [3,7,8,9,10,11,12,13,14,15,16,17,18] (fun g h'=>∃i:Nat,i<=n/\g 3= .int .i64 ((n:Int)-1-i)/\J i h') (fun g _=>match g 3 with| .int _ m=>(m+1).toNat|_=>0) ⟨0,by omega,by simp,hJ⟩ ?_;rintro g h' ⟨i,hin,hg,hJ⟩;obtain⟨hb,hv⟩:=hx i h' hJ;simp only[hg,hb,coreS,aC,af,Nat.reduceAdd,Nat.reduceSub,Nat.reduceMul,Nat.reduceLeDiff,Int.reduceEq,Nat.reduceEqDiff,Uo,YA,XA,Xg,YV,Zi,zOT];refine⟨fun hge=> ?_,fun hlt=> ?_⟩
 .have hi:i<es.length:=by omega
  have ei:(n:Int)-1-i=((es.length-1-i:Nat):Int):=by omega
  have hce:=zRj hv (i:=es.length-1-i) (by omega);simp only[ei,hce,bi,coreS,aC,af,Nat.reduceAdd,Nat.reduceSub,Nat.reduceMul,Nat.reduceLeDiff,Int.reduceEq,Nat.reduceEqDiff,Uo,YA,XA,Xg,YV,Zi,zOT];refine⟨by omega,hv.isSome (by rw[zOI];omega),?_⟩;have hst:=step i h' [.int .i64 ((es.length-1-i:Nat):Int),enA es[es.length-1-i]] (by
   rw[bwX,uE,Xn hi];simp[iq,aY (show es.length-1-i<es.length by omega)]) hJ
  refine Aw.run hst rfl (by simp only[zay,ib,xW];rfl) ?_;rintro v h2 (⟨rfl,hJ2⟩|⟨rfl,hE⟩)
  .simp only[bE,coreS,aC,af,Nat.reduceAdd,Nat.reduceSub,Nat.reduceMul,Nat.reduceLeDiff,Int.reduceEq,Nat.reduceEqDiff,Uo,YA,XA,Xg,YV,Zi,zOT];refine⟨by rw[zBS];omega,Zr (by kernel_rfl) ⟨i+1,by omega,?_,hJ2⟩ ?_⟩
   .show lN .i64 (((es.length-1-i:Nat):Int)-1)=_;congr 1;omega
   .show(((es.length-1-i:Nat):Int)-1+1).toNat<(((es.length-1-i:Nat):Int)+1).toNat;omega
  .simp only[bP,coreS,aC,af,Nat.reduceAdd,Nat.reduceSub,Nat.reduceMul,Nat.reduceLeDiff,Int.reduceEq,Nat.reduceEqDiff,Uo,YA,XA,Xg,YV,Zi,zOT];exact .inr hE
 .have:i=n:=by omega
  subst this;left;rw[zQ8,<-hn];exact hJ
theorem zVn {bx n c:Nat}{a:Option Addr}{es:List En}(hn:n=es.length)(hl:n<=1000):
 zA4 aF (.func (.func 174) #[] #[.pointer (some ⟨bx,0,none⟩)]) (fun h'=>h'[bx]? =some (.cells #[.slice a n c] 57)/\Row h' a (zOS es)) (bwX es):=
 ⟨174,_,_,rfl,fun lo h0 J E hx hJ step=>zXa lo bx n c a es h0 hn hl J E hx hJ step⟩
theorem zSd (a:Option Addr)(n c:Nat)(h:Eng.Heap):ak aF 118 #[.slice a n c] h (fun v h'=>v= .func (.func 174) #[] #[.pointer (some ⟨h.size,0,none⟩)]/\h'=h.push (.cells #[.slice a n c] 57)):=by
 (refine Rm Tryz.func118 rfl zXN ?_;simp only[Tryz.ntmps118,Tryz.results118,coreS,U1,splice,aC,af,Nat.reduceAdd,Nat.reduceSub,Nat.reduceMul,Nat.reduceLeDiff,Int.reduceEq,Nat.reduceEqDiff])
theorem zVw {R:Eng.Heap->Eng.Heap->Prop}(hS:Sta R){P:Program}{p:Pr}(ok:Ok P p){h:Eng.Heap}{er:Env}{ty u yt:TypeId}{ti:TI}(hti:p.ty u=some ti){xs ys:List Int}(hl:xs.length=ys.length)(h0:0<xs.length)(hfl:ti.fl=bQ xs.length .i)
 {x y:Operand} (hx:ev er x= .agg (Eng.ints xs).toArray) (hy:ev er y= .agg (Eng.ints ys).toArray) {K:Value->Eng.Heap->Prop} (H:K (.bool (decide (xs=ys))) h):iP P R (.binOp .eql u x y yt) ty er h K:=by
 refine gT hS rfl _ H fun W=> ?_
 have he:mG ti (.agg (xs.map (T.int .i64))) (.agg (ys.map (T.int .i64)))=some (decide (xs=ys)):=by
  have:=EP xs ys hl;unfold mG;rw[hfl];cases hx:xs.length with
  |zero=>omega
  |succ n=>rw[hx]at this;simpa[List.replicate_succ]using this
 have hv:VR (fun _=>none) (.agg (xs.map (T.int .i64))) (.agg (Eng.ints xs).toArray):=by simp only[VR];exact⟨_,rfl,by simpa using FP xs⟩
 have hw:VR (fun _=>none) (.agg (ys.map (T.int .i64))) (.agg (Eng.ints ys).toArray):=by simp only[VR];exact⟨_,rfl,by simpa using FP ys⟩
 obtain⟨h1,⟨c,d,e1,e2⟩,hg,_⟩:=jW (ok.tf hti) hv hw he W;rw[e1,e2]at h1;rw[e1]at hx;rw[e2]at hy;have:(do eqGuard .eql u x y (.agg c) (.agg d);Go.binOp .eql u (.agg c) (.agg d):Sem Value).run P W= .ok (.bool (decide (xs=ys))) W:=by
  simp[eqGuard,hg,Go.binOp,h1]
 simp only[execOp,qm,hx,hy]at this ⊢;rw[this];rfl
end Go.Proofs.YtejmkibjpaoahaaGreatDoor
end
section
set_option linter.unusedVariables false
set_option linter.unusedSimpArgs false
namespace Go.Eng
open Go
section
variable {b c:Nat}{h h' h'':Heap}
structure Chg (h h':Heap)(b:Nat):Prop where
 size:h.size<=h'.size
 old:∀c,c<h.size->c≠b->h'[c]? =h[c]?
theorem Chg.refl (h:Heap)(b:Nat):Chg h h b:=⟨bM _,fun _ _ _=>rfl⟩
theorem Chg.Sg (x:Ext h h')(b:Nat):Chg h h' b:=⟨x.size,fun c hc _=>x.old c hc⟩
theorem Chg.trans (x:Chg h h' b)(y:Chg h' h'' b):Chg h h'' b:=⟨yw x.size y.size,fun c hc hne=>(y.old c (sD hc x.size) hne).trans (x.old c hc hne)⟩
theorem Chg.get {o:Obj}(x:Chg h h' b)(hc:h[c]? =some o)(hne:c≠b):h'[c]? =some o:=(x.old c (bA hc) hne).trans hc
theorem Chg.upd (x:Chg h h' b)(u:Upd h' h'' b):Chg h h'' b:=⟨by rw[u.size];exact x.size,fun c hc hne=>(u.old c hne).trans (x.old c hc hne)⟩
theorem Chg.ext (x:Chg h h' b)(y:Ext h' h''):Chg h h'' b:=x.trans (.Sg y b)
theorem Chg.push (x:Chg h h' b)(o:Obj):Chg h (h'.push o) b:=x.ext ((Ext.refl h').push o)
theorem Chg.fresh {h0:Heap}(x:Ext h0 h)(c:Chg h h' b)(hb:h0.size<=b):Ext h0 h':=⟨yw x.size c.size,fun i hi=>(c.old i (sD hi x.size) (by omega)).trans (x.old i hi)⟩
theorem Row.chg {a:Option Addr}{cs:List Value}{ents:Array MapEntry}(H:Row h a cs)(hb:h[b]? =some (.map ents c))(x:Chg h h' b):Row h' a cs:=by
 rcases H with H|⟨g,off,cur,ct,fr,h1,h2,h3,h4⟩
 .exact .inl H
 .refine .inr ⟨g,off,cur,ct,fr,h1,x.get h2 ?_,h3,h4⟩;rintro rfl;rw[hb]at h2;cases h2
theorem eu.chg {n:Nat}{a:Option Addr}{xs:List Int}{ents:Array MapEntry}(H:eu h a n xs)(hb:h[b]? =some (.map ents c))(x:Chg h h' b):eu h' a n xs:=⟨H.len,H.row.chg hb x⟩
end
section maps
variable {α:Type}[DecidableEq α]
end maps
theorem filter_lt {α:Type}{p q:α->Bool}:∀{l:List α},(∀x∈l,q x=true->p x=true)->∀{e:α},e∈l->p e=true->q e=false->(l.filter q).length<(l.filter p).length
 |[],_,e,h,_,_=>by cases h
 |y::l,hs,e,h,hp,hq=>by
  have hle:(l.filter q).length<=(l.filter p).length:=by
   have:l.filter q=(l.filter p).filter q:=by
    rw[List.filter_filter];apply List.filter_congr;intro x hx;by_cases hqx:q x=true
    .simp[hqx,hs x (by simp[hx]) hqx]
    .simp[hqx]
   rw[this];exact List.length_filter_le _ _
  rcases ek.1 h with rfl|h
  .simp only[zaw,hp,hq,if_true,aZ];simp;omega
  .have ih:=filter_lt (p:=p) (q:=q) (fun x hx=>hs x (by simp[hx])) h hp hq;simp only[zaw];by_cases hqy:q y=true
   .simp[hqy,hs y (by simp) hqy,ih]
   .by_cases hpy:p y=true
    .simp[hqy,hpy];omega
    .simp[hqy,hpy,ih]
end Go.Eng
end
section
set_option linter.unusedVariables false
set_option linter.unusedSimpArgs false
namespace Go.Eng
open Go
section loopd
variable {l:Option Nat}{P:Program}
section
variable {d:List Deferred}{e:Env}{h h':Heap}{m0 m1:Nat}
def NF (e0:Env)(ws:List Nat)(I:(Nat->Value)->List Deferred->Heap->Prop)(μ:(Nat->Value)->Heap->Nat)(n:Nat)(e:Env)(d:List Deferred)(h:Heap):Prop:=
 e=mkE e0 ws (fun i=>e.getD i undef)/\I (fun i=>e.getD i undef) d h/\μ (fun i=>e.getD i undef) h<n
theorem zAI {e0:Env}{ws:List Nat}{I:(Nat->Value)->List Deferred->Heap->Prop}{μ:(Nat->Value)->Heap->Nat}{n:Nat}(h1:e=mkE e0 ws (fun i=>e.getD i undef))(h2:I (fun i=>e.getD i undef) d h)(h3:μ (fun i=>e.getD i undef) h<n):NF e0 ws I μ n e d h:=⟨h1,h2,h3⟩
theorem zA0 {c:Code}{k:aj}(ws:List Nat)(I:(Nat->Value)->List Deferred->Heap->Prop)(μ:(Nat->Value)->Heap->Nat)(h0:I (fun i=>e.getD i undef) d h)(round:∀g d' h',I g d' h'->exec l P c (iC (NF e ws I μ (μ g h')) k) (mkE e ws g) d' h'):WP l P (.loop c) k e d h:=by
 unfold WP;intro w hw;refine wpIn_loop (fun a w'=>(a.tmps.toList=mkE e ws (fun i=>a.tmps.toList.getD i undef)/\I (fun i=>a.tmps.toList.getD i undef) a.defers w'.heap)/\Rest w w')
  (fun a w'=>μ (fun i=>a.tmps.toList.getD i undef) w'.heap) ⟨⟨by rw[Bp],by subst hw;simpa using h0⟩,Rest.refl w⟩ ?_
 rintro a w' ⟨⟨he',hI⟩,hr⟩;have h1:=round _ _ w'.heap hI;rw[<-he']at h1;have h1:=dI _ _ _ _ _ h1;unfold WP at h1;have h1:=h1 w' rfl;rw[dA]at h1;refine wpIn_mono h1 ?_;rintro x a' w'' ⟨hq,hr'⟩;cases x with
 |normal=>
  unfold iC at hq;obtain⟨q1,q2,q3⟩:=hq;exact⟨⟨⟨q1,q2⟩,hr.trans hr'⟩,q3⟩
 |_=>unfold iC at hq;exact⟨hq,hr.trans hr'⟩
attribute [irreducible] NF
def Marks (m0 m1:Nat)(h:Heap)(d:List Deferred):Prop:=∃rs:List Nat,d=rs.map mkD/\rs.Nodup/\∀r∈rs,m0<=r/\r<m1/\h[r]? =some (.deferred (some []))
theorem Marks.nil (m0 m1:Nat)(h:Heap):Marks m0 m1 h []:=⟨[],rfl,List.nodup_nil,by simp⟩
theorem Marks.keep (M:Marks m0 m1 h d)(hk:∀r,m0<=r->r<m1->∀o,h[r]? =some o->h'[r]? =some o):Marks m0 m1 h' d:=by
 obtain⟨rs,h1,h2,h3⟩:=M;exact⟨rs,h1,h2,fun r hr=>⟨(h3 r hr).1,(h3 r hr).2.1,hk r (h3 r hr).1 (h3 r hr).2.1 _ (h3 r hr).2.2⟩⟩
theorem Marks.ext (M:Marks m0 m1 h d)(x:Ext h h'):Marks m0 m1 h' d:=M.keep fun _ _ _ _ ho=>x.get ho
theorem Marks.upd {b:Nat}(M:Marks m0 m1 h d)(u:Upd h h' b)(hb:b<m0\/m1<=b):Marks m0 m1 h' d:=M.keep fun r h1 h2 _ ho=>u.get ho (by omega)
theorem Marks.mono {m2:Nat}(M:Marks m0 m1 h d)(hm:m1<=m2):Marks m0 m2 h d:=by
 obtain⟨rs,h1,h2,h3⟩:=M;exact⟨rs,h1,h2,fun r hr=>⟨(h3 r hr).1,sD (h3 r hr).2.1 hm,(h3 r hr).2.2⟩⟩
theorem Marks.cons {m2 r:Nat}(M:Marks m0 m1 h d)(hr:h[r]? =some (.deferred (some [])))(h0:m0<=r)(h1:m1<=r)(h2:r<m2):Marks m0 m2 h (mkD r::d):=by
 obtain⟨rs,h3,h4,h5⟩:=M;refine⟨r::rs,by rw[h3];rfl,zaI.2 ⟨fun hm=> ?_,h4⟩,fun q hq=> ?_⟩
 .have:=(h5 r hm).2.1;omega
 .rcases ek.1 hq with rfl|hq
  .exact⟨h0,h2,hr⟩
  .have:=h5 q hq;exact⟨this.1,by omega,this.2.2⟩
theorem Zt {rs:List ResultVar}{K:Value->Heap->Prop}(M:Marks m0 m1 h d)(H:∀h',h'.size=h.size->(∀b,(b<m0\/m1<=b)->h'[b]? =h[b]?)->jl P rs e [] K h'):oO P rs e d h K:=by
 obtain⟨ls,rfl,hnd,hls⟩:=M;unfold oO;have key:∀(ls:List Nat) (h:Heap),ls.Nodup->(∀r∈ls,m0<=r/\r<m1/\h[r]? =some (.deferred (some [])))->AV h (ls.map mkD)/\(lK h (ls.map mkD)).size=h.size/\∀b,(b<m0\/m1<=b)->(lK h (ls.map mkD))[b]? =h[b]? :=by
  intro ls;induction ls with
  |nil=>intro h _ _;exact⟨trivial,rfl,fun _ _=>rfl⟩
  |cons r ls ih=>
   intro h hnd hls;have hr:=hls r dn;have h2:=zaI.1 hnd;have:=ih (h.setIfInBounds r (.deferred none)) h2.2 (fun q hq=>by
    have h3:=hls q (cZ _ hq);exact⟨h3.1,h3.2.1,by
     have hne:r≠q:=fun he=>h2.1 (by rw[he];exact hq)
     rw[rf hne];exact h3.2.2⟩)
   refine⟨⟨r,rfl,hr.2.2,this.1⟩,?_,fun b hb=> ?_⟩
   .show(lK (h.setIfInBounds r (.deferred none)) (ls.map mkD)).size=_;rw[this.2.1];simp
   .show(lK (h.setIfInBounds r (.deferred none)) (ls.map mkD))[b]? =_;rw[this.2.2 b hb,rf (by omega)]
 have:=key ls h hnd hls;exact⟨this.1,H _ this.2.1 this.2.2⟩
end
end loopd
end Go.Eng
end
section
set_option linter.unusedVariables false
set_option linter.unusedSimpArgs false
namespace Go.Eng
open Go
theorem zBq {l:Option Nat}{P:Program}{c:Code}{n:Env->List Deferred->Heap->Prop}{k:aj}{e:Env}{d:List Deferred}{h:Heap}(ws:List Nat)(I:(Nat->Value)->Heap->Prop)
 (H:WP l P c (iC (Pv e d ws I) k) e d h) (Hn:∀g h',I g h'->n (mkE e ws g) d h'):WP l P c (iC n k) e d h:=
 dD (uD (fun e' d' h' hmid=>by
  unfold Pv at hmid;obtain⟨h1,h2,h3⟩:=hmid;subst h1;rw[h2];exact Hn _ _ h3) (fun _ _ _ _ h=>h)) H
section pureR
variable {P:Program}{k:aj}{d:List Deferred}{h:Heap}
end pureR
end Go.Eng
end
section
namespace Go.Proofs.YtejmkibjpaoahaaGreatDoor
open Go Go.Proofs Go.Eng Go.Run Tab RL
section
variable {a:Option Addr}{c:Nat}{ct:TypeId}{fr:Nat×Nat}{g:Nat}{h:Eng.Heap}{i n:Nat}{o:List Int}
set_option maxRecDepth 100000
set_option linter.unusedSimpArgs false
set_option linter.unusedVariables false
set_option linter.defProp false
set_option maxHeartbeats 4000000
set_option linter.defProp false
def zNv:=(aD (aD (aD (aD (aD @zPc @zWx) (aD @zWy @zSI)) (aD (aD @zPd @zZ5) (aD @zWl (aD @zSj @zP8)))) (aD (aD (aD @zP9 @zVz) (aD @zWA @zSO)) (aD (aD @zQP @zPy) (aD @zPW (aD @zXk @zVL))))) (aD (aD (aD (aD @zR7 @zP0) (aD @zZc @zWp)) (aD (aD @zRC @zPq) (aD @zZN (aD @zWt @zTO)))) (aD (aD (aD @sz2 @sz4) (aD @zZP @zQJ)) (aD (aD @zWg @zWk) (aD @zZT (aD @Tryz.underlying57 @Tryz.underlying122))))))
def muH (x:Option Obj):Nat:=match x with|some (.cells cur _ _)=>mu ((cur.toList.drop 1).map fun v=>match v with| .int _ z=>z|_=>0)|_=>0
theorem zTI:muH (some (.cells (bkC a n c o).toArray ct fr))=mu o:=by
 unfold muH bkC;simp only[ints,nY,ww,List.map_map];exact congrArg mu (List.map_id _)
theorem zRq (hb:h[g]? =some (.cells (bkC a n c o).toArray ct fr))(hl:2*i+1<o.length):UY h[g]? (1+i*2) 2=some [.int .i64 (lo o i),.int .i64 (hi o i)]:=by
 have hr:Row h (some ⟨g,1,none⟩) (ints o):= .inr ⟨g,1,_,_,_,rfl,hb,by simp[bkC];omega,by simp[bkC]⟩;exact rgK hr hl
theorem set2:∀(o:List Int) (k:Nat) (u v:Int),k+1<o.length->(o.set k u).set (k+1) v=o.take k++[u,v]++o.drop (k+2)
 |[],k,u,v,h=>by simp at h
 |[x],k,u,v,h=>by simp at h
 |x::y::o,0,u,v,_=>by simp
 |x::y::o,k+1,u,v,h=>by
  have:=set2 (y::o) k u v (by simpa using h);simp only[List.set_cons_succ,pq,nY,cz];rw[this];rfl
theorem zUp (hl:2*i+1<o.length)(x y:Int):splice (bkC a n c o) (1+i*2) [.int .i64 (max (lo o i) x),.int .i64 (min (hi o i) y)]=bkC a n c (met o i x y):=by
 unfold met;rw[set2 _ _ _ _ hl];unfold splice bkC ints;rw[show 1+i*2=2*i+1 by omega];simp only[pq,aZ,bv,eF,Za,List.map_drop,ib,xW,cz];rw[show 2*i+1+(0+1+1)=(2*i+2)+1 by omega,nY]
theorem Row.zZA {h':Eng.Heap}{cs:List Value}(H:Row h a cs)(x:Chg h h' g)(hne:∀p,a=some p->p.block≠g):Row h' a cs:=by
 rcases H with H|⟨b,off,cur,ct,fr,h1,h2,h3,h4⟩
 .exact .inl H
 .exact .inr ⟨b,off,cur,ct,fr,h1,by rw[x.old b (bA h2) (hne _ h1)];exact h2,h3,h4⟩
theorem Chg.zQQ {h':Eng.Heap}{b:Nat}{o:Obj}(x:Chg h h' g)(hb:h[b]? =some o)(hne:b≠g):h'[b]? =some o:=by rw[x.old b (bA hb) hne];exact hb
theorem zUo (hl:o.length=16):UY (some (.cells (bkC a n c o).toArray ct fr)) 1 16=some (ints o):=by
 have hr:Row (#[KW (bkC a n c o).toArray ct fr]) (some ⟨0,1,none⟩) (ints o):= .inr ⟨0,1,_,_,_,rfl,rfl,by simp[bkC,ints];omega,by simp[bkC]⟩;have:=hr.cells (j:=0) (n:=16) (by rw[aR];omega) (by omega);rw[gK,EG]at this;rw[show(#[KW (bkC a n c o).toArray ct fr])[0]? =some (KW (bkC a n c o).toArray ct fr)from rfl]at this;rw[this];rw[ww,bD (by rw[aR];omega)]
theorem zTj (hb:h[g]? =some (.cells (bkC a n c o).toArray ct fr))(hl:2*i+1<o.length):TR h[g]? (1+i*2)=some (.int .i64 (lo o i))/\TR h[g]? (1+i*2+1)=some (.int .i64 (hi o i)):=by
 have hr:Row h (some ⟨g,1,none⟩) (ints o):= .inr ⟨g,1,_,_,_,rfl,hb,by simp[bkC];omega,by simp[bkC]⟩;have I:eu h (some ⟨g,1,none⟩) o.length o:=⟨rfl,hr⟩;have h1:=I.cell (j:=i*2) (by omega);have h2:=I.cell (j:=i*2+1) (by omega);rw[gK,Hz]at h1 h2;unfold lo hi;rw[show 2*i=i*2 by omega];exact⟨h1,by rw[Nat.add_assoc];exact h2⟩
theorem zYV:(bkC a n c o)[0]? =some (.slice a n c):=rfl
structure StQ (es:List En)(a:Option Addr)(n c g:Nat)(o:List Int)(h:Eng.Heap)(v:Value)(h':Eng.Heap):Prop where
 chg:Chg h h' g
 ex:∃(r:Bool) (o':List Int),v= .bool r/\h'[g]? =some (.cells (bkC a n c o').toArray 124)/\Nar es o o'/\(r=true->Vl o'/\zVi es o' es.length/\zWw es o' 0)/\(r=false->∃i,i<=es.length/\hi o' i<lo o' i)
theorem zTN (a:Option Addr)(n c g:Nat)(es:List En)(o:List Int)(h:Eng.Heap)(hr:Row h a (zOS es))(hn:n=es.length)(h7:n<=7)(he:∀e∈es,okM e)(hg:h[g]? =some (.cells (bkC a n c o).toArray 124))(V:Vl o)(hag:∀p,a=some p->p.block≠g):
 ak aF 60 #[.pointer (some ⟨g,0,none⟩)] h (StQ es a n c g o h):=by
 (refine Rm Tryz.func60 rfl zYk ?_;simp only[Tryz.ntmps60,Tryz.results60,coreS,U1,splice,aC,af,Nat.reduceAdd,Nat.reduceSub,Nat.reduceMul,Nat.reduceLeDiff,Int.reduceEq,Nat.reduceEqDiff,zNv])
 have hgs:=bA hg;have q1:=Jy (o:= .cells #[.bool false] 4) (jD (h:=h) (o:= .cells #[.pointer (some ⟨g,0,none⟩)] 116));have q2:=jD (h:=h.push (.cells #[.pointer (some ⟨g,0,none⟩)] 116)) (o:= .cells #[.bool false] 4);rw[Rh]at q2;have x1:=((Ext.refl h).push (.cells #[.pointer (some ⟨g,0,none⟩)] 116)).push (.cells #[.bool false] 4);generalize (h.push (.cells #[.pointer (some ⟨g,0,none⟩)] 116)).push (.cells #[.bool false] 4)=h1 at q1 q2 x1 ⊢;refine zA0 [3,4,5,6,7,8,9,10,11,12,13,14,15,16,17,18,19,20,21,22,23,24,25,26,27,28,29,30,31,32,33,34,35,36,37,38,39,40,41,42,43,44,45,46,47,48,49,50,51,52,53,54,55,56,57,58,59,60,61,64,65,66,67,68,69,70,71,72,73,74,75,76,77,78,79,80,81,82,83,84,85,86,87,88,89,90,91,92,93,94,95,96,97,98,99,100,101,102,103,104,105,106,107] (fun e d h'=>Chg h h' g/\h.size+2<=h'.size/\Marks (h.size+2) h'.size h' d/\h'[h.size]? =some (.cells #[.pointer (some ⟨g,0,none⟩)] 116)/\h'[h.size+1]? =some (.cells #[.bool false] 4)/\∃o',h'[g]? =some (.cells (bkC a n c o').toArray 124)/\Nar es o o'/\Vl o') (fun _ h'=>muH h'[g]?) ⟨Chg.Sg x1 g,bA q2,Marks.nil _ _ _,q1,q2,o,x1.get hg,Nar.refl es o,V⟩ ?_;rintro e2 d2 h2 ⟨z1,s2,M2,z2,z3,was,z4,N0,V0⟩;simp only[z2,z4,coreS,aC,af,Nat.reduceAdd,Nat.reduceSub,Nat.reduceMul,Nat.reduceLeDiff,Int.reduceEq,Nat.reduceEqDiff,zNv];simp only[zUo V0.1,coreS,aC,af,Nat.reduceAdd,Nat.reduceSub,Nat.reduceMul,Nat.reduceLeDiff,Int.reduceEq,Nat.reduceEqDiff,zNv];have hc1:(zbk (ints was).toArray).cells.size=szT aF 122:=by rw[zWt];simp only[aC,List.size_toArray,aR,V0.1]
 have hc2:(zbk (ints was).toArray).cells.toList.all one=true:=by
  simp only[aC,List.all_eq_true];intro u hu;simp only[ints,gL]at hu;obtain⟨_,_,rfl⟩:=hu;rfl
 rw[Dx zVL hc1 hc2];simp only[coreS,aC,af,Nat.reduceAdd,Nat.reduceSub,Nat.reduceMul,Nat.reduceLeDiff,Int.reduceEq,Nat.reduceEqDiff,zNv];have hs2:=z1.size;have hs3:=bA z3;have p4:=Jy (o:= .cells #[.int .i64 0,.int .i64 0,.int .i64 0,.int .i64 0,.int .i64 0,.int .i64 0,.int .i64 0,.int .i64 0,.int .i64 0,.int .i64 0,.int .i64 0,.int .i64 0,.int .i64 0,.int .i64 0,.int .i64 0,.int .i64 0] 122) z4;refine Oy jD (by simp[aR,V0.1]) fun h3 g3 u3=> ?_
 have e3:splice [.int .i64 0,.int .i64 0,.int .i64 0,.int .i64 0,.int .i64 0,.int .i64 0,.int .i64 0,.int .i64 0,.int .i64 0,.int .i64 0,.int .i64 0,.int .i64 0,.int .i64 0,.int .i64 0,.int .i64 0,.int .i64 0] 0 (ints was)=ints was:=by
  unfold splice;rw[aR,V0.1];simp
 rw[e3]at g3;have x3:Ext h2 h3:=u3.ext ((Ext.refl h2).push _) (bM _);have k2:=x3.get z2;have k3:=x3.get z3;have k4:=x3.get z4;have c3:Chg h h3 g:=z1.trans (Chg.Sg x3 g);simp only[k2,k4,zYV,coreS,aC,af,Nat.reduceAdd,Nat.reduceSub,Nat.reduceMul,Nat.reduceLeDiff,Int.reduceEq,Nat.reduceEqDiff,zNv];have hsz3:=bA g3;refine zAi [4,5,6,21,22,23,24,25,26,27,28,29,30,31,32,33,34,35,36,37,38,39,40,41,42,43,44,45,46,47,48,49,50,51,52,53,54,55] (fun e h'=>Chg h3 h' g/\∃i:Nat,i<=n/\e 21= .int .i64 i/\∃o',h'[g]? =some (.cells (bkC a n c o').toArray 124)/\Nar es was o'/\Vl o'/\(o'=was->zVi es was i)) (fun e _=>match e 21 with| .int _ q=>n-q.toNat|_=>0) ⟨Chg.refl h3 g,0,by omega,rfl,was,k4,Nar.refl es was,V0,fun _ i _ hi=>absurd hi (by omega)⟩ ?_;rintro e4 h4 ⟨c4,i,hi,he4,o4,b4,N4,V4,F4⟩;simp only[he4,coreS,aC,af,Nat.reduceAdd,Nat.reduceSub,Nat.reduceMul,Nat.reduceLeDiff,Int.reduceEq,Nat.reduceEqDiff,zNv];refine⟨fun hlt=> ?_,fun hge=> ?_⟩
 .have hil:i<es.length:=by omega
  have cc:=c3.trans c4;have hr4:=Row.zZA hr cc hag;have hce:=zRj hr4 hil;have sa:=hr4.isSome (by rw[zOI];omega);have j2:=Chg.zQQ c4 k2 (by omega);simp only[hce,j2,coreS,aC,af,Nat.reduceAdd,Nat.reduceSub,Nat.reduceMul,Nat.reduceLeDiff,Int.reduceEq,Nat.reduceEqDiff,zNv];refine⟨by omega,sa,?_⟩;refine Oy jD (by simp) fun h5 g5 u5=> ?_
  simp only[splice,dL,dG,bK,bL,aZ,bv]at g5;have x5:Ext h4 h5:=u5.ext ((Ext.refl h4).push _) (bM _);have j5:=x5.get j2;simp only[j5,coreS,aC,af,Nat.reduceAdd,Nat.reduceSub,Nat.reduceMul,Nat.reduceLeDiff,Int.reduceEq,Nat.reduceEqDiff,zNv];have b5:=x5.get b4;refine⟨by rw[zBS];omega,by omega,?_⟩;refine zB7 (by kernel_rfl) zBc (.quiet 0 (.quiet 1 (.quiet 2 (.quiet 3 (.quiet 4 (.quiet 5 (.quiet 6 (.quiet 7 (.quiet 8 (.quiet 9 (.quiet 10 (.keep 11 (.keep 12 (.quiet 13 (.one 14 (.fin)))))))))))))))) (by kernel_rfl) rfl (by kernel_rfl) ?_;have ei:((i:Int)+1).toNat=i+1:=by omega
  have r1:=zRq b5 (i:=i) (by rw[V4.1];omega);have r2:=zRq b5 (i:=i+1) (by rw[V4.1];omega);simp only[g5,ei,bi,r1,r2,j5,coreS,aC,af,Nat.reduceAdd,Nat.reduceSub,Nat.reduceMul,Nat.reduceLeDiff,Int.reduceEq,Nat.reduceEqDiff,drawS,treeS,zNv];refine⟨by omega,?_⟩;have vi:=V4.2 i (by omega);have hk:=he _ (bS hil);refine YD fun h6 x6=> ?_
  simp only[coreS,aC,af,Nat.reduceAdd,Nat.reduceSub,Nat.reduceMul,Nat.reduceLeDiff,Int.reduceEq,Nat.reduceEqDiff,drawS,treeS,zNv];refine ak.mono (zU3 es[i] (lo o4 i) (Go.Proofs.YtejmkibjpaoahaaGreatDoor.hi o4 i) h6 hk (by omega) (by omega)) ?_;rintro v h7 ⟨rfl,x7⟩;refine⟨x7,?_⟩
  try simp only[coreS,aC,af,Nat.reduceAdd,Nat.reduceSub,Nat.reduceMul,Nat.reduceLeDiff,Int.reduceEq,Nat.reduceEqDiff,drawS,treeS,zNv]
  refine YD fun h8 x8=> ?_
  simp only[coreS,aC,af,Nat.reduceAdd,Nat.reduceSub,Nat.reduceMul,Nat.reduceLeDiff,Int.reduceEq,Nat.reduceEqDiff,drawS,treeS,zNv];refine ak.mono (zUF (lo o4 (i+1)) (Go.Proofs.YtejmkibjpaoahaaGreatDoor.hi o4 (i+1)) (mlo es[i] (lo o4 i)) (mhi es[i] (Go.Proofs.YtejmkibjpaoahaaGreatDoor.hi o4 i)) h8) ?_;rintro v h9 ⟨rfl,x9⟩;refine⟨x9,?_⟩
  try simp only[coreS,aC,af,Nat.reduceAdd,Nat.reduceSub,Nat.reduceMul,Nat.reduceLeDiff,Int.reduceEq,Nat.reduceEqDiff,drawS,treeS,zNv]
  refine Zk fun h10 x10=> ?_
  have x510:=((x6.trans x7).trans (x8.trans x9)).trans x10;have b10:=x510.get b5;obtain⟨o5,ho5⟩:∃o5,o5=met o4 (i+1) (mlo es[i] (lo o4 i)) (mhi es[i] (Go.Proofs.YtejmkibjpaoahaaGreatDoor.hi o4 i)):=⟨_,rfl⟩;simp only[b10,rgV,coreS,aC,af,Nat.reduceAdd,Nat.reduceSub,Nat.reduceMul,Nat.reduceLeDiff,Int.reduceEq,Nat.reduceEqDiff,drawS,treeS,zNv];refine Oy b10 (by simp[bkC,aR,V4.1];omega) fun h11 g11 u11=> ?_
  rw[zUp (by rw[V4.1];omega),<-ho5]at g11;refine zAN fun h12 x12=> ?_
  have b12:=x12.get g11;have r12:=zRq b12 (i:=i+1) (by rw[ho5,zPf,V4.1];omega);simp only[coreS,aC,af,Nat.reduceAdd,Nat.reduceSub,Nat.reduceMul,Nat.reduceLeDiff,Int.reduceEq,Nat.reduceEqDiff,zNv];obtain⟨r13,r14⟩:=zTj b12 (i:=i+1) (by rw[ho5,zPf,V4.1];omega);refine zB9 (by kernel_rfl) zBc [(0,0),(1,0),(2,0),(3,0),(4,0),(5,0),(6,0),(7,0),(8,0)] (by kernel_rfl) rfl (by kernel_rfl) ?_;simp only[r13,r14,coreS,aC,af,Nat.reduceAdd,Nat.reduceSub,Nat.reduceMul,Nat.reduceLeDiff,Int.reduceEq,Nat.reduceEqDiff,drawS,zNv];have x12c:Chg h4 h12 g:=by
   have c5:=Chg.Sg (x5.trans x510) g;exact(c5.trans ⟨by rw[u11.size];exact bM _,fun b _ hb=>u11.old b hb⟩).trans (Chg.Sg x12 g)
  have n3:h12[h.size+1]? =some (.cells #[.bool false] 4):=Chg.zQQ (c4.trans x12c) k3 (by omega);have N5:Nar es o4 o5:=by rw[ho5];exact zWD he V4 hil (by omega)
  refine zBw fun h13 x13=> ?_
  have l5:lo o5 (i+1)=max (lo o4 (i+1)) (mlo es[i] (lo o4 i)):=by rw[ho5,zRf _ _ (by rw[V4.1];omega),if_pos rfl]
  have h5:Go.Proofs.YtejmkibjpaoahaaGreatDoor.hi o5 (i+1)=min (Go.Proofs.YtejmkibjpaoahaaGreatDoor.hi o4 (i+1)) (mhi es[i] (Go.Proofs.YtejmkibjpaoahaaGreatDoor.hi o4 i)):=by rw[ho5,zRe _ _ (by rw[V4.1];omega),if_pos rfl]
  have n13:=x13.get n3;have c13:Chg h4 h13 g:=x12c.trans (Chg.Sg x13 g);by_cases hbad:Go.Proofs.YtejmkibjpaoahaaGreatDoor.hi o5 (i+1)<lo o5 (i+1)
  .simp only[hbad,n13,decide_true,coreS,aC,af,Nat.reduceAdd,Nat.reduceSub,Nat.reduceMul,Nat.reduceLeDiff,Int.reduceEq,Nat.reduceEqDiff,drawS,zNv];refine Oy n13 (by simp) fun h14 g14 u14=> ?_
   simp only[splice,dL,dG,bK,bL,aZ,bv]at g14;have c14:Chg h h14 g:=by
    have c0:=cc.trans c13;exact⟨by rw[u14.size];exact c0.size,fun b hb hne=>(u14.old b (by omega)).trans (c0.old b hb hne)⟩
   have c213:Chg h2 h13 g:=(Chg.Sg x3 g).trans (c4.trans c13);have M14:Marks (h.size+2) h14.size h14 d2:=(M2.keep fun r q1 q2 o ho=>u14.get (Chg.zQQ c213 ho (by omega)) (by omega)).mono (by rw[u14.size];exact c213.size);simp only[coreS,aC,af,Nat.reduceAdd,Nat.reduceSub,Nat.reduceMul,Nat.reduceLeDiff,Int.reduceEq,Nat.reduceEqDiff,zNv];refine Zt M14 fun h15 s15 old15=> ?_
   have g15:h15[h.size+1]? =some (.cells #[.bool false] 4):=by rw[old15 _ (by omega)];exact g14
   have b15:h15[g]? =some (.cells (bkC a n c o5).toArray 124):=by rw[old15 _ (by omega)];exact u14.get (x13.get b12) (by omega)
   simp only[g15,coreS,aC,af,Nat.reduceAdd,Nat.reduceSub,Nat.reduceMul,Nat.reduceLeDiff,Int.reduceEq,Nat.reduceEqDiff,zNv];exact⟨⟨by rw[s15];exact c14.size,fun b hb hne=>(old15 b (by omega)).trans (c14.old b hb hne)⟩,false,o5,rfl,b15,(N0.trans N4).trans N5,fun h=>(by cases h),fun _=>⟨i+1,by omega,hbad⟩⟩
  .simp only[hbad,decide_false,coreS,aC,af,Nat.reduceAdd,Nat.reduceSub,Nat.reduceMul,Nat.reduceLeDiff,Int.reduceEq,Nat.reduceEqDiff,drawS,zNv];have meas:n-((i:Int)+1).toNat<n-(i:Int).toNat:=by omega
   have V5:Vl o5:=by rw[ho5];exact zVR V4 (by omega) (by rw[<-l5,<-h5];exact hbad)
   refine⟨by rw[zBS];omega,Zr (by kernel_rfl) ⟨c4.trans c13,i+1,by omega,rfl,o5,x13.get b12,N4.trans N5,V5,fun e=> ?_⟩ meas⟩;have e4:o4=was:=by
    subst e;exact N5.eq N4
   intro j hj hji;by_cases hjl:j<i
   .exact F4 e4 j hj hjl
   .obtain rfl:j=i:=by omega
    rw[<-e,l5,e];rw[e4];omega
 .obtain rfl:i=n:=by omega
  have j2:=Chg.zQQ c4 k2 (by omega);have j3:=Chg.zQQ c4 k3 (by omega);have jw:=Chg.zQQ c4 g3 (by omega);have cc:=c3.trans c4;have hs4:=c4.size;simp only[j2,b4,zYV,coreS,aC,af,Nat.reduceAdd,Nat.reduceSub,Nat.reduceMul,Nat.reduceLeDiff,Int.reduceEq,Nat.reduceEqDiff,zNv];refine ak.mono (zSd a i c h4) ?_;rintro v h5 ⟨rfl,hh5⟩;have p5:h5[h4.size]? =some (.cells #[.slice a i c] 57):=by rw[hh5];exact jD
  have x5:Ext h4 h5:=by rw[hh5];exact(Ext.refl h4).push _
  have s5:h5.size=h4.size+1:=by rw[hh5];simp
  clear hh5;have cc5:Chg h h5 g:=cc.trans (Chg.Sg x5 g);simp only[coreS,aC,af,Nat.reduceAdd,Nat.reduceSub,Nat.reduceMul,Nat.reduceLeDiff,Int.reduceEq,Nat.reduceEqDiff,Uo,YA,XA,Xg,YV,Zi,zNv];refine Zp (xss:=bwX es) rfl (zVn (bx:=h4.size) (a:=a) (c:=c) hn (by omega)) (fun k h'=>Chg h5 h' g/\k<=i/\h5.size+2<=h'.size/\h'[h5.size]? =some (.deferred (some []))/\∃o',h'[g]? =some (.cells (bkC a i c o').toArray 124)/\Nar es was o'/\Vl o'/\(o'=was->zVi es was es.length/\zWw es was (i-k)))
   (fun j h'=>j= .ret/\h5.size+2<=h'.size/\(∀b,b<h5.size->b≠g->b≠h.size+1->h'[b]? =h5[b]?)/\h'[h5.size]? =some (.deferred (some []))/\h'[h.size+1]? =some (.cells #[.bool false] 4)/\∃o',h'[g]? =some (.cells (bkC a i c o').toArray 124)/\Nar es was o'/\∃k,k<=es.length/\Go.Proofs.YtejmkibjpaoahaaGreatDoor.hi o' k<lo o' k) ?_ ?_ ?_ ?_ ?_ ?_ ?_ ?_
  .intro vs hvs;simp only[bwX,gL]at hvs;obtain⟨_,_,rfl⟩:=hvs;rfl
  .rintro k h' ⟨w1,w2,w3,w4,_⟩;exact⟨Chg.zQQ w1 p5 (by omega),Row.zZA hr (cc5.trans w1) hag⟩
  .rintro k h6 h7 ⟨w1,w2,w3,w4,o',w5,w6⟩ u;exact⟨⟨by rw[u.size];exact w1.size,fun b hb hne=>(u.old b (by omega)).trans (w1.old b hb hne)⟩,w2,by rw[u.size];exact w3,u.get w4 (by omega),o',u.get w5 (by omega),w6⟩
  .rintro j h6 h7 ⟨w1,w2,w3,w4,w5,o',w6,w7⟩ u;exact⟨w1,by rw[u.size];exact w2,fun b hb h1 h2=>(u.old b (by omega)).trans (w3 b hb h1 h2),u.get w4 (by omega),u.get w5 (by omega),o',u.get w6 (by omega),w7⟩
  .intro h' x w1 w2;exact⟨Chg.Sg x g,by omega,by omega,w1,o4,x.get (x5.get b4),N4,V4,fun e=>⟨by rw[<-hn];exact F4 e,fun j hj hji=>absurd hji (by omega)⟩⟩
  .rintro k h6 vs o hvs ⟨w1,w2,w3,w4,o6,b6,N6,V6,F6⟩ ho;obtain⟨hk,rfl⟩:=zVl hvs;have kl:es.length-1-k<es.length:=by omega
   obtain⟨j,hj⟩:∃j,j=es.length-1-k:=⟨_,rfl⟩;simp only[enA,XG,coreS,aC,af,Nat.reduceAdd,Nat.reduceSub,Nat.reduceMul,Nat.reduceLeDiff,Int.reduceEq,Nat.reduceEqDiff,Uo,YA,XA,Xg,YV,Zi,zNv];simp only[<-hj]at kl ⊢;refine Oy jD (by simp) fun h7 g7 u7=> ?_
   simp only[splice,dL,dG,bK,bL,aZ,bv]at g7;have x7:Ext h6 h7:=u7.ext ((Ext.refl h6).push _) (bM _);simp only[XG,coreS,aC,af,Nat.reduceAdd,Nat.reduceSub,Nat.reduceMul,Nat.reduceLeDiff,Int.reduceEq,Nat.reduceEqDiff,Uo,YA,XA,Xg,YV,Zi,zNv];refine⟨x7.get ho,fun h8 lp u8 ho8=> ?_⟩;have s67:=x7.size;have s78:=u8.size;have g8:=u8.get g7 (by omega);have b8:=u8.get (x7.get b6) (by omega);have w8:=u8.get (x7.get w4) (by omega);have c8:Chg h5 h8 g:=by
    have c:=w1.trans (Chg.Sg x7 g);exact⟨by rw[u8.size];exact c.size,fun b hb hne=>(u8.old b (by omega)).trans (c.old b hb hne)⟩
   have f8:=Chg.zQQ ((Chg.Sg x5 g).trans c8) j2 (by omega);have t8:=Chg.zQQ ((Chg.Sg x5 g).trans c8) j3 (by omega);have hj7:j<7:=by omega
   have ej:((j:Int)+1).toNat=j+1:=by omega
   have r1:=zRq b8 (i:=j) (by rw[V6.1];omega);have r2:=zRq b8 (i:=j+1) (by rw[V6.1];omega);refine zBq [9,10,64,65,66,67,68,69,70,71,72,73,74,75] (fun e h'=>Ext h8 h'/\∃q,e 9= .pointer (some ⟨q,0,none⟩)/\e 10= .pointer (some ⟨g,1+j*2,none⟩)/\h8.size<=q/\h'[q]? =some (.cells #[.int .i64 (lo o6 (j+1)),.int .i64 (Go.Proofs.YtejmkibjpaoahaaGreatDoor.hi o6 (j+1))] 115)) ?_ ?_
   .refine zB7 (by kernel_rfl) zBc (.quiet 0 (.quiet 1 (.quiet 2 (.quiet 3 (.quiet 4 (.quiet 5 (.quiet 6 (.pure 8 (.yo 7 12 true true (.pure 9 (.pure 10 (.pure 11 (.keep 12 (.one 13 (.quiet 14 (.fin))))))) (.yo 7 13 true false (.pure 9 (.pure 10 (.pure 11 (.one 13 (.quiet 14 (.fin)))))) (.quiet 7 (.quiet 9 (.quiet 10 (.quiet 11 (.quiet 14 (.fin)))))))))))))))) (by kernel_rfl) rfl (by kernel_rfl) ?_;simp only[f8,ej,bi,r1,r2,coreS,aC,af,Nat.reduceAdd,Nat.reduceSub,Nat.reduceMul,Nat.reduceLeDiff,Int.reduceEq,Nat.reduceEqDiff,drawS,treeS,zNv];refine⟨by rw[zBS];omega,by omega,?_⟩;refine Xh fun hA xA=>⟨?_,?_⟩
    .simp only[xA.get f8,ej,bi,coreS,aC,af,Nat.reduceAdd,Nat.reduceSub,Nat.reduceMul,Nat.reduceLeDiff,Int.reduceEq,Nat.reduceEqDiff,drawS,treeS,zNv];refine⟨Ext.refl hA,by omega,?_⟩;refine YD fun hB xB=> ?_
     simp only[coreS,aC,af,Nat.reduceAdd,Nat.reduceSub,Nat.reduceMul,Nat.reduceLeDiff,Int.reduceEq,Nat.reduceEqDiff,drawS,treeS,zNv];refine⟨(Ext.refl hB).push _,?_⟩;refine Zk fun hC xC=> ?_
     have qC:=xC.get jD;simp only[qC,coreS,aC,af,Nat.reduceAdd,Nat.reduceSub,Nat.reduceMul,Nat.reduceLeDiff,Int.reduceEq,Nat.reduceEqDiff,drawS,treeS,zNv];refine Oy qC (by simp) fun hD gD uD=> ?_
     simp only[splice,dL,dG,bK,bL,aZ,bv]at gD;refine zAN fun hE xE=> ?_
     have sAB:=xB.size;have sA:=xA.size;simp only[Gd];exact zBX (by kernel_rfl) ⟨(uD.ext ((xA.trans xB).trans xC.zBe) (by omega)).trans xE,hB.size,rfl,rfl,by omega,xE.get gD⟩
    .simp only[xA.get f8,ej,bi,coreS,aC,af,Nat.reduceAdd,Nat.reduceSub,Nat.reduceMul,Nat.reduceLeDiff,Int.reduceEq,Nat.reduceEqDiff,drawS,treeS,zNv];refine⟨(Ext.refl hA).push _,?_⟩;refine Xh fun hB xB=>⟨?_,?_⟩
     .have qB:=xB.get jD;have fB:=xB.get (Jy (o:= .cells #[.int .i64 0,.int .i64 0] 115) (xA.get f8));simp only[fB,ej,bi,coreS,aC,af,Nat.reduceAdd,Nat.reduceSub,Nat.reduceMul,Nat.reduceLeDiff,Int.reduceEq,Nat.reduceEqDiff,drawS,treeS,zNv];refine⟨Ext.refl hB,by omega,?_⟩;refine Zk fun hC xC=> ?_
      have qC:=xC.get qB;simp only[qC,coreS,aC,af,Nat.reduceAdd,Nat.reduceSub,Nat.reduceMul,Nat.reduceLeDiff,Int.reduceEq,Nat.reduceEqDiff,drawS,treeS,zNv];refine Oy qC (by simp) fun hD gD uD=> ?_
      simp only[splice,dL,dG,bK,bL,aZ,bv]at gD;refine zAN fun hE xE=> ?_
      have sA:=xA.size;simp only[Gd];exact zBX (by kernel_rfl) ⟨(uD.ext ((xA.trans xB.zBe).trans xC) (by omega)).trans xE,hA.size,rfl,rfl,by omega,xE.get gD⟩
     .have qB:=xB.get jD;have fB:=xB.get (Jy (o:= .cells #[.int .i64 0,.int .i64 0] 115) (xA.get f8));simp only[qB,coreS,aC,af,Nat.reduceAdd,Nat.reduceSub,Nat.reduceMul,Nat.reduceLeDiff,Int.reduceEq,Nat.reduceEqDiff,drawS,treeS,zNv];refine Oy qB (by simp) fun hC gC uC=> ?_
      simp only[splice,dL,dG,bK,bL,aZ,bv]at gC;have sA:=xA.size;have s8:=bA f8;have fC:=uC.get fB (by omega);simp only[fC,ej,bi,coreS,aC,af,Nat.reduceAdd,Nat.reduceSub,Nat.reduceMul,Nat.reduceLeDiff,Int.reduceEq,Nat.reduceEqDiff,drawS,treeS,zNv];refine⟨by omega,?_⟩;refine zAN fun hE xE=> ?_
      simp only[Gd];exact zBX (by kernel_rfl) ⟨(uC.ext (xA.trans xB.zBe) (by omega)).trans xE,hA.size,rfl,rfl,by omega,xE.get gC⟩
   rintro e9 h9 ⟨x9,q,e9q,e9p,hq,g9⟩;have b9:=x9.get b8;have m9:=x9.get g8;have hb:=he _ (bS kl);have v0:=V6.2 j (by omega);have v1:=V6.2 (j+1) (by omega);have r9:=zRq b9 (i:=j) (by rw[V6.1];omega);simp only[coreS,aC,af,Nat.reduceAdd,Nat.reduceSub,Nat.reduceMul,Nat.reduceLeDiff,Int.reduceEq,Nat.reduceEqDiff,Uo,YA,XA,Xg,YV,Zi,zNv];refine zB7 (by kernel_rfl) zBc (.quiet 0 (.quiet 1 (.quiet 2 (.quiet 3 (.quiet 4 (.quiet 5 (.quiet 6 (.quiet 8 (.quiet 9 (.quiet 10 (.quiet 11 (.keep 7 (.keep 12 (.quiet 13 (.quiet 14 (.keep 15 (.quiet 16 (.one 17 (.fin))))))))))))))))))) (by kernel_rfl) rfl (by kernel_rfl) ?_;simp only[e9q,e9p,m9,g9,r9,coreS,aC,af,Nat.reduceAdd,Nat.reduceSub,Nat.reduceMul,Nat.reduceLeDiff,Int.reduceEq,Nat.reduceEqDiff,drawS,treeS,zNv];refine⟨by rw[zBS];omega,?_⟩;refine YD fun hA xA=> ?_
   simp only[coreS,aC,af,Nat.reduceAdd,Nat.reduceSub,Nat.reduceMul,Nat.reduceLeDiff,Int.reduceEq,Nat.reduceEqDiff,drawS,treeS,zNv];refine ak.mono (zRy es[j] (lo o6 (j+1)) false hA hb (by omega)) ?_;rintro v hB ⟨rfl,xB⟩;refine⟨xB,?_⟩
   try simp only[coreS,aC,af,Nat.reduceAdd,Nat.reduceSub,Nat.reduceMul,Nat.reduceLeDiff,Int.reduceEq,Nat.reduceEqDiff,drawS,treeS,zNv]
   refine YD fun hC xC=> ?_
   simp only[coreS,aC,af,Nat.reduceAdd,Nat.reduceSub,Nat.reduceMul,Nat.reduceLeDiff,Int.reduceEq,Nat.reduceEqDiff,drawS,treeS,zNv];refine ak.mono (zRy es[j] (Go.Proofs.YtejmkibjpaoahaaGreatDoor.hi o6 (j+1)+1) true hC hb (by omega)) ?_;rintro v hD ⟨rfl,xD⟩;refine⟨xD,?_⟩;have nb:=zXt (k:=es[j].d) (f:=es[j].a) (l:=Go.Proofs.YtejmkibjpaoahaaGreatDoor.hi o6 (j+1)+1) (by have:=hb.1;omega) (by have:=hb.2.2.2.1;have:=hb.2.2.2.2.1;omega);simp only[Bool.false_eq_true,if_false,if_true,coreS,aC,af,Nat.reduceAdd,Nat.reduceSub,Nat.reduceMul,Nat.reduceLeDiff,Int.reduceEq,Nat.reduceEqDiff,drawS,treeS,zNv];refine⟨by rw[zBS];omega,?_⟩;simp only[splice,dL,dG,bK,cz,bL,aZ,bv,Nat.reduceAdd,Nat.reduceLeDiff,if_true,coreS,aC,af,Nat.reduceAdd,Nat.reduceSub,Nat.reduceMul,Nat.reduceLeDiff,Int.reduceEq,Nat.reduceEqDiff,drawS,treeS,zNv];refine YD fun hE xE=> ?_
   simp only[coreS,aC,af,Nat.reduceAdd,Nat.reduceSub,Nat.reduceMul,Nat.reduceLeDiff,Int.reduceEq,Nat.reduceEqDiff,drawS,treeS,zNv];refine ak.mono (zUF (lo o6 j) (Go.Proofs.YtejmkibjpaoahaaGreatDoor.hi o6 j) (nlo es[j] (lo o6 (j+1))) (nhi es[j] (Go.Proofs.YtejmkibjpaoahaaGreatDoor.hi o6 (j+1))) hE) ?_;rintro v hF ⟨rfl,xF⟩;refine⟨xF,?_⟩
   try simp only[coreS,aC,af,Nat.reduceAdd,Nat.reduceSub,Nat.reduceMul,Nat.reduceLeDiff,Int.reduceEq,Nat.reduceEqDiff,drawS,treeS,zNv]
   refine Zk fun hG xG=> ?_
   have x9G:=((xA.trans xB).trans (xC.trans xD)).trans ((xE.trans xF).trans xG);have bG:=x9G.get b9;obtain⟨o7,ho7⟩:∃o7,o7=met o6 j (nlo es[j] (lo o6 (j+1))) (nhi es[j] (Go.Proofs.YtejmkibjpaoahaaGreatDoor.hi o6 (j+1))):=⟨_,rfl⟩;simp only[e9p,bG,rgV,coreS,aC,af,Nat.reduceAdd,Nat.reduceSub,Nat.reduceMul,Nat.reduceLeDiff,Int.reduceEq,Nat.reduceEqDiff,drawS,treeS,zNv];refine Oy bG (by simp[bkC,aR,V6.1];omega) fun hH gH uH=> ?_
   rw[zUp (by rw[V6.1];omega),<-ho7]at gH;refine zAN fun hI xI=> ?_
   have bI:=xI.get gH;obtain⟨q13,q14⟩:=zTj bI (i:=j) (by rw[ho7,zPf,V6.1];omega);simp only[coreS,aC,af,Nat.reduceAdd,Nat.reduceSub,Nat.reduceMul,Nat.reduceLeDiff,Int.reduceEq,Nat.reduceEqDiff,Uo,YA,XA,Xg,YV,Zi,zNv];refine zB9 (by kernel_rfl) zBc [(0,0),(1,0),(2,0),(3,0),(4,0),(5,0),(6,0),(7,0),(8,0)] (by kernel_rfl) rfl (by kernel_rfl) ?_;simp only[e9p,q13,q14,coreS,aC,af,Nat.reduceAdd,Nat.reduceSub,Nat.reduceMul,Nat.reduceLeDiff,Int.reduceEq,Nat.reduceEqDiff,drawS,zNv];refine zBw fun hJ xJ=> ?_
   have l7:lo o7 j=max (lo o6 j) (nlo es[j] (lo o6 (j+1))):=by rw[ho7,zRf _ _ (by rw[V6.1];omega),if_pos rfl]
   have h7':Go.Proofs.YtejmkibjpaoahaaGreatDoor.hi o7 j=min (Go.Proofs.YtejmkibjpaoahaaGreatDoor.hi o6 j) (nhi es[j] (Go.Proofs.YtejmkibjpaoahaaGreatDoor.hi o6 (j+1))):=by rw[ho7,zRe _ _ (by rw[V6.1];omega),if_pos rfl]
   have c8J:Chg h8 hJ g:=by
    have c:=Chg.Sg (x9.trans x9G) g;exact((c.trans ⟨by rw[uH.size];exact bM _,fun b _ hb=>uH.old b hb⟩).trans (Chg.Sg xI g)).trans (Chg.Sg xJ g)
   have nJ:=Chg.zQQ c8J t8 (by omega);have loJ:=Chg.zQQ c8J ho8 (by omega);have dJ:=Chg.zQQ c8J w8 (by omega);have bJ:=xJ.get bI;have sJ:=c8J.size;have N7:Nar es o6 o7:=by rw[ho7];exact zVm he V6 kl (by omega)
   by_cases bad:Go.Proofs.YtejmkibjpaoahaaGreatDoor.hi o7 j<lo o7 j
   .simp only[bad,nJ,decide_true,coreS,aC,af,Nat.reduceAdd,Nat.reduceSub,Nat.reduceMul,Nat.reduceLeDiff,Int.reduceEq,Nat.reduceEqDiff,drawS,zNv];refine Oy nJ (by simp) fun hK gK uK=> ?_
    simp only[splice,dL,dG,bK,bL,aZ,bv]at gK;simp only[zA8,coreS,aC,af,Nat.reduceAdd,Nat.reduceSub,Nat.reduceMul,Nat.reduceLeDiff,Int.reduceEq,Nat.reduceEqDiff,Uo,YA,XA,Xg,YV,Zi,zNv];exact⟨uK.get loJ (by omega),by rw[uK.size];omega,fun b hb h1 h2=>(uK.old b h2).trans ((c8.trans c8J).old b hb h1),uK.get dJ (by omega),gK,o7,uK.get bJ (by omega),N6.trans N7,j,by omega,bad⟩
   .simp only[bad,decide_false,Xj,coreS,aC,af,Nat.reduceAdd,Nat.reduceSub,Nat.reduceMul,Nat.reduceLeDiff,Int.reduceEq,Nat.reduceEqDiff,drawS,zNv];have V7:Vl o7:=by rw[ho7];exact zVR V6 (by omega) (by rw[<-l7,<-h7'];exact bad)
    refine⟨loJ,c8.trans c8J,by omega,by omega,dJ,o7,bJ,N6.trans N7,V7,fun e=> ?_⟩;have e6:o6=was:=by
     subst e;exact N7.eq N6
    refine⟨(F6 e6).1,fun t ht htj=> ?_⟩;by_cases htl:i-k<=t
    .exact(F6 e6).2 t ht htl
    .obtain rfl:t=j:=by omega
     rw[<-e,l7,e,e6];omega
  .rintro h6 ⟨w1,w2,w3,w4,o6,b6,N6,V6,F6⟩;rw[zQ8]at F6;have c26:Chg h2 h6 g:=(Chg.Sg x3 g).trans ((c4.trans (Chg.Sg x5 g)).trans w1);have f2:=Chg.zQQ c26 z2 (by omega);have f3:=Chg.zQQ c26 z3 (by omega);have fw:=Chg.zQQ ((Chg.Sg x5 g).trans w1) jw (by omega);have M6:Marks (h.size+2) h6.size h6 (Go.Eng.mkD h5.size::d2):=Marks.cons (m1:=h2.size) (M2.keep fun r q1 q2 o ho=>Chg.zQQ c26 ho (by omega)) w4 (by omega) (by omega) (by omega);have ew:UY (some (KW (ints was).toArray 122 (0,0))) 0 16=some (ints was):=by
    have hr:Row (#[KW (ints was).toArray 122 (0,0)]) (some ⟨0,0,none⟩) (ints was):=Row.block rfl;have:=hr.cells (j:=0) (n:=16) (by rw[aR,V0.1];omega) (by omega);rw[gK,EG]at this;rw[show(#[KW (ints was).toArray 122 (0,0)])[0]? =some (KW (ints was).toArray 122 (0,0))from rfl]at this;rw[this,ww,bD (by rw[aR,V0.1];omega)]
   simp only[coreS,aC,af,Nat.reduceAdd,Nat.reduceSub,Nat.reduceMul,Nat.reduceLeDiff,Int.reduceEq,Nat.reduceEqDiff,Uo,YA,XA,Xg,YV,Zi,zNv];refine zB9 (by kernel_rfl) zBc [(0,0),(1,0),(2,0),(3,0),(4,0),(5,0)] (by kernel_rfl) rfl (by kernel_rfl) ?_;simp only[f2,b6,fw,zUo V6.1,ew,coreS,aC,af,Nat.reduceAdd,Nat.reduceSub,Nat.reduceMul,Nat.reduceLeDiff,Int.reduceEq,Nat.reduceEqDiff,drawS,zNv];refine zVw zBc (xs:=o6) (ys:=was) Pt.ok (ti:=(Pt.pr.ty 122).getD ⟨0,0,.any,.other,[]⟩) (by kernel_rfl) (by rw[V6.1,V0.1]) (by rw[V6.1];omega) (by rw[V6.1];kernel_rfl) (by rfl) (by rfl) ?_;simp only[coreS,aC,af,Nat.reduceAdd,Nat.reduceSub,Nat.reduceMul,Nat.reduceLeDiff,Int.reduceEq,Nat.reduceEqDiff,drawS,zNv];refine zBw fun h7 x7=> ?_
   have c27:=cc5.trans (w1.trans (Chg.Sg x7 g));by_cases e:o6=was
   .simp only[e,x7.get f3,decide_true,coreS,aC,af,Nat.reduceAdd,Nat.reduceSub,Nat.reduceMul,Nat.reduceLeDiff,Int.reduceEq,Nat.reduceEqDiff,drawS,zNv];refine Oy (x7.get f3) (by simp) fun h8 g8 u8=> ?_
    simp only[splice,dL,dG,bK,bL,aZ,bv]at g8;have M8:Marks (h.size+2) h8.size h8 (Go.Eng.mkD h5.size::d2):=((M6.keep (h':=h8) fun r q1 q2 o ho=>u8.get (x7.get ho) (by omega))).mono (by rw[u8.size];exact x7.size);simp only[coreS,aC,af,Nat.reduceAdd,Nat.reduceSub,Nat.reduceMul,Nat.reduceLeDiff,Int.reduceEq,Nat.reduceEqDiff,zNv];refine Zt M8 fun h9 s9 old9=> ?_
    have g9:h9[h.size+1]? =some (.cells #[.bool true] 4):=by rw[old9 _ (by omega)];exact g8
    have b9:h9[g]? =some (.cells (bkC a i c o6).toArray 124):=by rw[old9 _ (by omega)];exact u8.get (x7.get b6) (by omega)
    simp only[g9,coreS,aC,af,Nat.reduceAdd,Nat.reduceSub,Nat.reduceMul,Nat.reduceLeDiff,Int.reduceEq,Nat.reduceEqDiff,zNv];have FF:=F6 e;refine⟨⟨by rw[s9,u8.size];exact c27.size,fun b hb hne=>(old9 b (by omega)).trans ((u8.old b (by omega)).trans (c27.old b hb hne))⟩,true,o6,rfl,b9,N0.trans N6,fun _=>⟨V6,?_,?_⟩,fun h=>(by cases h)⟩
    .rw[e];exact FF.1
    .rw[e];have:=FF.2;rwa[show i-es.length=0 by omega]at this
   .simp only[e,decide_false,coreS,aC,af,Nat.reduceAdd,Nat.reduceSub,Nat.reduceMul,Nat.reduceLeDiff,Int.reduceEq,Nat.reduceEqDiff,drawS,zNv];have b7:=x7.get b6;have meas:muH h7[g]? <muH (some (.cells (bkC a i c was).toArray 124)):=by
     rw[b7,zTI,zTI];exact zZF V0 V6 N6 e
    exact zAI (by kernel_rfl) ⟨c27,by have:=x7.size;omega,(M6.ext x7).mono x7.size,x7.get f2,x7.get f3,o6,b7,N0.trans N6,V6⟩ meas
  .rintro j h6 ⟨rfl,w2,w3,w4,w5,o6,b6,N6,hb6⟩;have c25:Chg h2 h5 g:=(Chg.Sg x3 g).trans (c4.trans (Chg.Sg x5 g));have M6:Marks (h.size+2) h6.size h6 (Go.Eng.mkD h5.size::d2):=Marks.cons (m1:=h2.size) (M2.keep fun r q1 q2 o ho=>by rw[w3 r (by have:=c25.size;omega) (by omega) (by omega)];exact Chg.zQQ c25 ho (by omega)) w4 (by omega) (by omega) (by omega);simp only[coreS,aC,af,Nat.reduceAdd,Nat.reduceSub,Nat.reduceMul,Nat.reduceLeDiff,Int.reduceEq,Nat.reduceEqDiff,Uo,YA,XA,Xg,YV,Zi,zNv];refine Zt M6 fun h7 s7 old7=> ?_
   have g7:h7[h.size+1]? =some (.cells #[.bool false] 4):=by rw[old7 _ (by omega)];exact w5
   have b7:h7[g]? =some (.cells (bkC a i c o6).toArray 124):=by rw[old7 _ (by omega)];exact b6
   simp only[g7,coreS,aC,af,Nat.reduceAdd,Nat.reduceSub,Nat.reduceMul,Nat.reduceLeDiff,Int.reduceEq,Nat.reduceEqDiff,zNv];exact⟨⟨by have:=cc5.size;omega,fun b hb hne=>(old7 b (by omega)).trans ((w3 b (by omega) hne (by omega)).trans (cc5.old b hb hne))⟩,false,o6,rfl,b7,N0.trans N6,fun h=>(by cases h),fun _=>hb6⟩
end
end Go.Proofs.YtejmkibjpaoahaaGreatDoor
end
section
namespace Go.Proofs.YtejmkibjpaoahaaGreatDoor
open Go Go.Proofs Go.Eng Go.Run Tab RL
section
variable {es:List En}{i:Nat}{o:List Int}
set_option maxRecDepth 100000
set_option linter.unusedSimpArgs false
set_option linter.unusedVariables false
set_option linter.defProp false
set_option maxHeartbeats 4000000
set_option linter.defProp false
def zOF:=(aD (aD (aD @zPd (aD @by2 @zP8)) (aD @zP9 (aD @zSO @zPW))) (aD (aD @zP0 (aD @zPq @sz2)) (aD (aD @zQv @Tryz.underlying48) (aD @Tryz.underlying58 @Tryz.underlying122))))
theorem zUI (o:List Int)(k t:Nat):(o++bQ k 0).getD t 0=o.getD t 0:=by
 simp only[iq];by_cases h:t<o.length
 .rw[List.getElem?_append_left h]
 .rw[List.getElem?_append_right (by omega),kL (show o.length<=t by omega),List.getElem?_replicate];split<;>rfl
theorem zS0 (o:List Int)(k i:Nat):lo (o++bQ k 0) i=lo o i/\hi (o++bQ k 0) i=hi o i:=⟨zUI o k _,zUI o k _⟩
theorem zYE {m:Nat}(S:Sc es o m)(hm:o.length=2*m):Vl (o++bQ (16-2*m) 0):=by
 have h1:=S.len;have h2:=S.rw.len;refine⟨by rw[cK,zL];omega,fun i hi8=> ?_⟩;rw[(zS0 o _ i).1,(zS0 o _ i).2];by_cases him:i<m
 .have:=S.all i him;unfold isW at this;omega
 .have e1:lo o i=0:=by unfold lo;rw[iq,kL (by omega)];rfl
  have e2:hi o i=0:=by unfold hi;rw[iq,kL (by omega)];rfl
  omega
theorem zYD {k:Nat}{w:Nat->Int}:Tr es (o++bQ k 0) w<->Tr es o w:=by
 unfold Tr;simp only[(zS0 o k _).1,(zS0 o k _).2]
def zR5 (o:List Int)(i:Nat):List Int:=o.set (2*i+1) (lo o i)
theorem zRS (j:Nat):lo (zR5 o i) j=lo o j:=by
 unfold zR5 lo;simp only[iq,vk];rw[if_neg (by omega)]
theorem zSN (h:2*i+1<o.length)(j:Nat):hi (zR5 o i) j=if j=i then lo o i else hi o j:=by
 unfold zR5 hi;simp only[iq,vk];by_cases e:j=i
 .subst e;rw[if_pos rfl,if_pos h,if_pos rfl];rfl
 .rw[if_neg (by omega),if_neg e]
theorem zVy (V:Vl o)(h:i<8):Vl (zR5 o i):=by
 refine⟨by unfold zR5;rw[Dn];exact V.1,fun j hj=> ?_⟩;rw[zRS,zSN (by rw[V.1];omega)];have:=V.2 j hj;split
 .rename_i e;subst e;omega
 .exact this
theorem zXs {o':List Int}{w:Nat->Int}(N:Nar es o o')(T:Tr es o w)(hw:∀i,i<=es.length->lo o i=w i):∀i,i<=es.length->lo o' i=w i:=fun i hi'=>by
 have h1:=(N.tr w T).1 i hi';have h2:=N.lo i;have h3:=hw i hi';omega
theorem zVC {a:Option Addr}{n c:Nat}(h:2*i+1<o.length):splice (bkC a n c o) (1+i*2+1) [.int .i64 (lo o i)]=bkC a n c (zR5 o i):=by
 unfold bkC zR5;rw[show 1+i*2+1=(2*i+1)+1 by omega,<-ints_set];unfold splice;simp only[pq,aZ,bv,nY,cz];rw[List.set_eq_take_append_cons_drop,if_pos (by rw[aR];exact h)];simp
theorem zSK {h h1 h2:Eng.Heap}{g:Nat}(x:Ext h h1)(c:Chg h1 h2 g)(hg:h.size<=g):Ext h h2:=⟨yw x.size c.size,fun b hb=>(c.old b (sD hb x.size) (by omega)).trans (x.old b hb)⟩
theorem zYS {h:Eng.Heap}{er:Env}{ty:TypeId}{m0:Nat}{x y:Operand}{a b:Option Addr}{len cap m c:Nat}{xs ys:List Int}{K:Value->Eng.Heap->Prop}(hx:ev er x= .slice a len cap)(hy:ev er y= .slice b m c)(O:eG m0 h 2 a len cap xs)(h0h:m0<=h.size)(I:eu h b m ys)(hb:len+m<=100000)
 (H:∀a' cap' h',eG m0 h' 2 a' (len+m) cap' (xs++ys)->App h h' a a'->K (.slice a' (len+m) cap') h'):aI aF (.call ⟨.builtin .append,#[x,y],#[48,48]⟩) ty er h K:=
 WW vC vC zP0 sz2 (by rw[by2];decide) zQv hx hy O h0h I hb H
theorem zWa (a:Option Addr)(n c:Nat)(es:List En)(b:Option Addr)(m d:Nat)(o:List Int)(h:Eng.Heap)(hr:Row h a (zOS es))(hn:n=es.length)(hb:Row h b (ints o))(hm:o.length=2*m)(S:Sc es o m):
 ak aF 20 #[.slice a n c,.slice b m d] h (fun v h'=>Ext h h'/\((∃w p ws,v= .tuple #[.slice w m p,.int .i64 0]/\eu h' w m ws/\Tr es o fun i=>ws.getD i 0)\/v= .tuple #[.slice none 0 0,.int .i64 14])):=by
 have hml:=S.len;have hRl:=S.rw.len
 (refine Rm Tryz.func20 rfl zY1 ?_;simp only[Tryz.ntmps20,Tryz.results20,coreS,U1,splice,aC,af,Nat.reduceAdd,Nat.reduceSub,Nat.reduceMul,Nat.reduceLeDiff,Int.reduceEq,Nat.reduceEqDiff,zOF])
 refine ak.mono (zVs a n c es b m d o h hr hn hb hm S) ?_;rintro v h1 ⟨g,rfl,hg,bg,x1⟩;have V1:=zYE S hm;obtain⟨o1,ho1⟩:∃o1,o1=o++bQ (16-2*m) 0:=⟨_,rfl⟩;rw[<-ho1]at bg V1;have hag:∀p,a=some p->p.block≠g:=fun p hp e=>by
  rcases hr with h0|⟨q,off,cur,ct,fr,h1,h2,_⟩
  .have:(zOS es).length=0:=by rw[h0];rfl
   rw[zOI]at this;omega
  .rw[h1]at hp;cases hp;have:=bA h2;simp at e;omega
 simp only[decide_true,bE,coreS,aC,af,Nat.reduceAdd,Nat.reduceSub,Nat.reduceMul,Nat.reduceLeDiff,Int.reduceEq,Nat.reduceEqDiff,zOF];refine ak.mono (zTN a n c g es o1 h1 (hr.ext x1) hn (by omega) S.rw.all bg V1 hag) ?_;rintro v h2 ⟨c2,r,o2,rfl,b2,N2,Ht,Hf⟩;cases r
 case false=>
  simp only[bP,coreS,aC,af,Nat.reduceAdd,Nat.reduceSub,Nat.reduceMul,Nat.reduceLeDiff,Int.reduceEq,Nat.reduceEqDiff,zOF];exact⟨zSK x1 c2 hg,.inr trivial⟩
 obtain⟨V2,F2,B2⟩:=Ht rfl;simp only[bE,coreS,aC,af,Nat.reduceAdd,Nat.reduceSub,Nat.reduceMul,Nat.reduceLeDiff,Int.reduceEq,Nat.reduceEqDiff,zOF];have hx2:=zSK x1 c2 hg;have T2:Tr es o2 (lo o2):=zXe S.rw.all V2 (by omega) F2 B2;have T0:Tr es o (lo o2):=by
  rw[<-zYD (k:=16-2*m),<-ho1];refine⟨fun i hi'=> ?_,T2.2⟩;have h1:=T2.1 i hi';have h2:=N2.lo i;have h3:=N2.hi i;omega
 have hgs:=bA b2;refine⟨by decide,by omega,by omega,by omega,?_⟩;generalize hh3:h2.push _=h3;have x3:Ext h2 h3:=by rw[<-hh3];exact(Ext.refl h2).push _
 have s3:h3.size=h2.size+1:=by rw[<-hh3];simp
 have O3:eG h2.size h3 2 (some ⟨h2.size,0,none⟩) 0 m []:=by
  have q:=jD (h:=h2) (o:= .cells (bQ m (lN .i64 0)).toArray 2);refine eG.of_block (xs:=[]) (tl:=bQ m (.int .i64 0)) (bM _) ?_ (by simp) (by simp);rw[<-hh3,List.flatten_replicate_singleton];exact q
 clear hh3;refine zAi [8,9,29,30,31,32,33,34,35,36,37,38,39,40,41,42,43,44,45,46,47,48,49,50,51,52,53,54,55,56,57] (fun e h'=>Ext h h'/\h2.size<=h'.size/\∃i:Nat,i<=m/\e 29= .int .i64 i/\∃a8 c8 o',e 8= .slice a8 i c8/\h'[g]? =some (.cells (bkC a n c o').toArray 124)/\Vl o'/\Tr es o' (lo o2)/\(∀t,t<=es.length->lo o' t=lo o2 t)/\eG h2.size h' 2 a8 i c8 ((kD i).map (lo o2))) (fun e _=>match e 29 with| .int _ q=>m-q.toNat|_=>0) ⟨hx2.trans x3,by omega,0,by omega,rfl,_,_,o2,rfl,x3.get b2,V2,T2,fun _ _=>rfl,O3⟩ ?_;rintro e4 h4 ⟨x4,s4,i,hi4,he4,a8,c8,o4,ea8,b4,V4,T4,l4,O4⟩;simp only[he4,coreS,aC,af,Nat.reduceAdd,Nat.reduceSub,Nat.reduceMul,Nat.reduceLeDiff,Int.reduceEq,Nat.reduceEqDiff,zOF];refine⟨fun hlt=> ?_,fun hge=> ?_⟩
 .have r4:=zTj b4 (i:=i) (by rw[V4.1];omega);refine zB7 (by kernel_rfl) zBc (.quiet 0 (.quiet 1 (.quiet 2 (.quiet 3 (.quiet 4 (.quiet 5 (.quiet 6 (.quiet 7 (.quiet 8 (.quiet 9 (.quiet 10 (.quiet 11 (.quiet 12 (.one 13 (.fin))))))))))))))) (by kernel_rfl) rfl (by kernel_rfl) ?_;simp only[bi,r4.1,coreS,aC,af,Nat.reduceAdd,Nat.reduceSub,Nat.reduceMul,Nat.reduceLeDiff,Int.reduceEq,Nat.reduceEqDiff,drawS,treeS,zOF];refine⟨by omega,by omega,?_⟩;refine Zk fun h5 x5=> ?_
  have b5:=x5.get b4;simp only[b5,coreS,aC,af,Nat.reduceAdd,Nat.reduceSub,Nat.reduceMul,Nat.reduceLeDiff,Int.reduceEq,Nat.reduceEqDiff,drawS,treeS,zOF];refine Oy b5 (by simp[bkC,aR,V4.1];omega) fun h6 g6 u6=> ?_
  rw[zVC (by rw[V4.1];omega)]at g6;refine zAN fun h7 x7=> ?_
  have b7:=x7.get g6;have x7h:Ext h h7:=(u6.ext (x4.trans x5) hg).trans x7;simp only[coreS,aC,af,Nat.reduceAdd,Nat.reduceSub,Nat.reduceMul,Nat.reduceLeDiff,Int.reduceEq,Nat.reduceEqDiff,zOF];have T7:Tr es (zR5 o4 i) (lo o2):=⟨fun t ht=>by
   have h1:=T4.1 t ht;have h2:=l4 t ht;rw[zRS,zSN (by rw[V4.1];omega)];split
   .rename_i e;subst e;omega
   .exact h1,T4.2⟩
  refine ak.mono (zTN a n c g es (zR5 o4 i) h7 (hr.ext x7h) hn (by omega) S.rw.all b7 (zVy V4 (by omega)) hag) ?_;rintro v h8 ⟨k8,r,o8,rfl,b8,N8,Ht8,Hf8⟩;have T8:=N8.tr _ T7;have l8:=zXs N8 T7 (fun t ht=>by rw[zRS];exact l4 t ht);cases r
  case false=>
   obtain⟨t,ht,hbad⟩:=Hf8 rfl;have:=T8.1 t ht;omega
  obtain⟨V8,_,_⟩:=Ht8 rfl;have r8:=zTj b8 (i:=i) (by rw[V8.1];omega);simp only[ea8,r8.1,coreS,aC,af,Nat.reduceAdd,Nat.reduceSub,Nat.reduceMul,Nat.reduceLeDiff,Int.reduceEq,Nat.reduceEqDiff,zOF];refine⟨by omega,?_⟩;have O7:=((O4.ext x5).upd u6 (by omega)).ext x7;have O8:eG h2.size h8 2 a8 i c8 ((kD i).map (lo o2)):=O7.keep fun p hp=>k8.old p.block (O7.lt hp).1 (by have:=(O7.lt hp).2;omega)
  have x8h:Ext h h8:=zSK x7h k8 hg;have s78:=k8.size;have s57:h4.size<=h7.size:=by have:=x5.size;have:=u6.size;have:=x7.size;omega
  have O8':=O8.ext ((Ext.refl h8).push (.cells #[.int .i64 (lo o8 i)] 2));refine zYS (m0:=h2.size) rfl rfl O8' (by simp;omega) (zPN jD) (by omega) fun a9 c9 h9 O9 A9=> ?_
  have b9:=A9.upd O8' (Jy b8) (by omega);have x9:=A9.extN O8' (x8h.push _) hx2.size;have s9:=A9.size;rw[Rh]at s9;simp only[he4,coreS,aC,af,Nat.reduceAdd,Nat.reduceSub,Nat.reduceMul,Nat.reduceLeDiff,Int.reduceEq,Nat.reduceEqDiff,zOF];have en:(kD (i+1)).map (lo o2)=(kD i).map (lo o2)++[lo o8 i]:=by
   rw[zaJ,eF,l8 i (by omega)];rfl
  refine⟨by rw[zBS];omega,Zr (by kernel_rfl) ⟨x9,by omega,i+1,by omega,rfl,a9,c9,o8,rfl,b9,V8,T8,l8,by rw[en];exact O9⟩ ?_⟩;show m-((i:Int)+1).toNat<m-(i:Int).toNat;omega
 .obtain rfl:i=m:=by omega
  simp only[ea8,coreS,aC,af,Nat.reduceAdd,Nat.reduceSub,Nat.reduceMul,Nat.reduceLeDiff,Int.reduceEq,Nat.reduceEqDiff,zOF];refine⟨x4,.inl ⟨a8,c8,_,rfl,O4.ints,?_⟩⟩;have e:∀t,t<=es.length->((kD i).map (lo o2)).getD t 0=lo o2 t:=fun t ht=>by
   simp[iq,show t<i by omega]
  refine⟨fun t ht=> ?_,fun t ht=> ?_⟩
  .show lo o t<=((kD i).map (lo o2)).getD t 0/\((kD i).map (lo o2)).getD t 0<=hi o t;rw[e t ht];exact T0.1 t ht
  .show mlo es[t] (((kD i).map (lo o2)).getD t 0)<=((kD i).map (lo o2)).getD (t+1) 0/\((kD i).map (lo o2)).getD (t+1) 0<=mhi es[t] (((kD i).map (lo o2)).getD t 0);rw[e t (by omega),e (t+1) (by omega)];exact T0.2 t ht
end
end Go.Proofs.YtejmkibjpaoahaaGreatDoor
end
section
namespace Go.Proofs.YtejmkibjpaoahaaGreatDoor
open Go Go.Proofs Go.Eng Go.Run Tab
section
variable {A:List Value}{K:Value->Eng.Heap->Prop}{a:Option Addr}{c:Nat}{e:Env}{h:Eng.Heap}{n:Nat}{ty:TypeId}{vs:List Value}{x y:Operand}
set_option maxRecDepth 100000
set_option linter.unusedSimpArgs false
set_option linter.unusedVariables false
set_option maxHeartbeats 2000000
set_option linter.defProp false
def zNz:=(aD (aD @zQi @zPK) (aD @zQA @Tryz.underlying33))
def zOe:=(aD (aD @zQi @zPK) (aD @zQA (aD @zPi @Tryz.underlying33)))
theorem zTJ {ats:Array TypeId}{ga oa gb ob la ca lb cb:Nat}{xs ys:Array Value}{tA tB:TypeId}(hx:ev e x= .slice (some ⟨ga,oa,none⟩) la ca)(hy:ev e y= .slice (some ⟨gb,ob,none⟩) lb cb)(ha:h[ga]? =some (.cells xs tA (0,0)))(hb:h[gb]? =some (.cells ys tB (0,0)))(hne:ga≠gb)(hz:ys.size≠0)(H:K (.bool false) h):aI aF (.call ⟨.value (.func 105),#[x,y],ats⟩) ty e h K:=
 aK rfl (.bool false) H fun w hw=>by
  have e1:ev e (Operand.func 105)=Value.func (.func 105) #[] #[]:=rfl;simp only[execOp,resolve,e1,Deferred.ofValue,invoke,qm,sQ,nX];have h1:(callFunc 105 #[.slice (some ⟨ga,oa,none⟩) la ca,.slice (some ⟨gb,ob,none⟩) lb cb]).run aF w= .ok (.value (.bool false)) w:=by
   rw[run_callFunc_extern (fn:=Tryz.f105) (by kernel_rfl) (by kernel_rfl) (by kernel_rfl) (by kernel_rfl) (e:=Extern.SlicesOverlaps.overlaps #[33,33] #[4]) (by kernel_rfl)];obtain⟨j,hj⟩:=Option.isSome_iff_exists.1 zPK;have hsz:∀w,(Go.sizeOf 39).run aF w= .ok j.size w:=fun w=>by simp[sizeOf,typeInfo,hj]
   rw[Lib.run_overlaps_apart w 33 4 39 dM j.size hsz ⟨ga,oa,none⟩ ⟨gb,ob,none⟩ la ca lb cb hne tA tB xs.size ys.size (by unfold World.shape?;rw[hw,ha]) (by unfold World.shape?;rw[hw,hb]) hz (by unfold World.frozen?;rw[hw,ha];simp) (by unfold World.frozen?;rw[hw,ha];simp)];rfl
  simpa[hx,hy]using h1
theorem zPX {h':Eng.Heap}{b:Nat}(H:Row h a vs)(u:Upd h h' b)(hne:∀p,a=some p->p.block≠b):Row h' a vs:=by
 rcases H with H|⟨g,off,cur,ct,fr,h1,h2,h3,h4⟩
 .exact .inl H
 .exact .inr ⟨g,off,cur,ct,fr,h1,u.get h2 (hne _ h1),h3,h4⟩
theorem zUi {er:Env}{m0:Nat}{b:Option Addr}{len cap m:Nat}{xs ys:List En}(hx:ev er x= .slice a len cap)(hy:ev er y= .slice b m c)(O:iV m0 h 39 4 a len cap (zOS xs))(h0h:m0<=h.size)(I:Row h b (zOS ys))(hm:ys.length=m)(hb:len+m<=1000)(H:∀a' cap' h',iV m0 h' 39 4 a' (len+m) cap' (zOS (xs++ys))->App h h' a a'->K (.slice a' (len+m) cap') h'):aI aF (.call ⟨.builtin .append,#[x,y],#[33,33]⟩) ty er h K:=
 WZ dM dM zPK zQA zPi (by rfl) hx hy O h0h I (by rw[zOI,hm]) (fun u hu=>by
  simp only[zOS,NE,enV]at hu;obtain⟨e,_,hu⟩:=hu;simp at hu;rcases hu with rfl|rfl|rfl|rfl<;>rfl) (by omega) (by rw[zQi];omega) (fun a' cap' h' O' A=>H a' cap' h' (by rw[zPk];exact O') A)
theorem CQ {P:Program}{u yt el:TypeId}(hu:P.underlying u=some (.slice el))(hx:ev e x= .slice a n c)(hy:ev e y= .slice none 0 0)(H:K (.bool a.isNone) h):aI P (.binOp .eql u x y yt) ty e h K:=
 aK rfl _ H fun w _=>by simp[execOp,hx,hy,eqGuard,Go.binOp,Tv hu]
theorem zTW {op:BinOp}{b:Option Addr}{n2 c2:Nat}{F:Prop}:dF op (.slice a n c) (.slice b n2 c2) h K F=F:=by unfold dF;rfl
theorem zRR (a:Option Addr)(n c:Nat)(es:List En)(h:Eng.Heap)(hr:Row h a (zOS es))(hn:n=es.length)(hl:n<=900):
 ak aF 44 #[.slice a n c] h (fun v h'=>∃a' c',v= .slice a' n c'/\iV h.size h' 39 4 a' n c' (zOS es)/\Ext h h'):=by
 (refine Rm Tryz.func44 rfl zYb ?_;simp only[Tryz.ntmps44,Tryz.results44,coreS,U1,splice,aC,af,Nat.reduceAdd,Nat.reduceSub,Nat.reduceMul,Nat.reduceLeDiff,Int.reduceEq,Nat.reduceEqDiff,zOe])
 rw[zTW];refine CQ dM rfl rfl ?_;cases a with
 |none=>
  have he:es=[]:=by
   rcases hr with hr|⟨_,_,_,_,_,h1,_⟩
   .have:=congrArg List.length hr;rw[zOI]at this;exact List.eq_nil_of_length_eq_zero (by simp at this;omega)
   .cases h1
  subst he;subst hn;simp only[Option.isNone,coreS,aC,af,Nat.reduceAdd,Nat.reduceSub,Nat.reduceMul,Nat.reduceLeDiff,Int.reduceEq,Nat.reduceEqDiff,zOe];exact⟨none,0,rfl,iV.nil _ _ _ _,Ext.refl _⟩
 |some a=>
  simp only[Option.isNone,coreS,aC,af,Nat.reduceAdd,Nat.reduceSub,Nat.reduceMul,Nat.reduceLeDiff,Int.reduceEq,Nat.reduceEqDiff,zOe];refine⟨by omega,?_⟩;have O0:iV h.size (h.push (.cells #[] 39)) 39 4 (some ⟨h.size,0,none⟩) 0 0 (zOS []):=⟨rfl,.inr ⟨h.size,#[],rfl,bM _,jD,by simp,bM _,rfl⟩⟩;refine zUi rfl rfl O0 (by simp) (hr.push _) hn.symm (by omega) fun a' c' h' O A=> ?_
  simp only[coreS,aC,af,Nat.reduceAdd,Nat.reduceSub,Nat.reduceMul,Nat.reduceLeDiff,Int.reduceEq,Nat.reduceEqDiff,zOe];refine⟨a',c',rfl,by rw[Nat.zero_add]at O;exact O,A.extV O0 ((Ext.refl h).push _) (bM _)⟩
theorem zQY {c B C:List Value}{off:Nat}(hc:c=A++(B++C))(ho:off=A.length)(hb:B.length=vs.length):splice c off vs=A++(vs++C):=by
 subst hc ho;unfold splice;rw[zaR,<-wm,zw,<-hb,zw,eQ]
theorem zWF {D zs tl ev:List Value}{i:Nat}(hA:A.length=i*4)(hD:D.length=(n-i)*4)(hz:zs.length=(n+1-i)*4)(hi:i<=n)(he:ev.length=4):
 splice (splice (A++(zs++tl)) (i*4) ev) ((i+1)*4) D=A++(ev++(D++tl)):=by
 have h1:splice (A++(zs++tl)) (i*4) ev=A++(ev++(zs.drop 4++tl)):=
  zQY (A:=A) (B:=zs.take 4) (C:=zs.drop 4++tl) (by rw[<-eQ (zs.take 4),kM]) hA.symm (by rw[eD];omega)
 rw[h1];have h2:=zQY (c:=A++(ev++(zs.drop 4++tl))) (A:=A++ev) (B:=zs.drop 4) (C:=tl) (vs:=D) (off:=(i+1)*4) (by simp) (by simp;omega) (by rw[mI];omega);rw[h2];simp
theorem zVO {D tl ev:List Value}{i:Nat}(hA:A.length=i*4)(hD:D.length=(n-i)*4)(ht:4<=tl.length)(hi:i<=n)(he:ev.length=4):
 splice (splice (A++(D++tl)) ((i+1)*4) D) (i*4) ev=A++(ev++(D++tl.drop 4)):=by
 have h1:splice (A++(D++tl)) ((i+1)*4) D=A++((D++tl).take 4++(D++tl.drop 4)):=by
  have hw:(D++tl)=(D++tl).take 4++(((D++tl).drop 4).take D.length++tl.drop 4):=by
   have e1:tl.drop 4=((D++tl).drop 4).drop D.length:=by
    rw[wm,Nat.add_comm,<-wm,zw]
   rw[e1,kM,kM]
  have h2:=zQY (c:=A++(D++tl)) (A:=A++(D++tl).take 4) (B:=((D++tl).drop 4).take D.length) (C:=tl.drop 4) (vs:=D) (off:=(i+1)*4) (by rw[eQ,<-hw]) (by simp[hA];omega) (by simp;omega);rw[h2];simp
 rw[h1];exact zQY rfl hA.symm (by simp;omega)
theorem zUq {u:Option TypeDesc}{F:Prop}:lZ .cap vs u h K F=F:=by
 unfold lZ;split<;>first|rfl|(rename_i hh;cases hh)|simp_all
theorem zZa {t el:TypeId}(hu:Tryz.prog.underlying t=some (.slice el))(hx:ev e x= .slice a n c)(H:K (.int .i64 c) h):aI aF (.call ⟨.builtin .cap,#[x],#[t]⟩) ty e h K:=
 aK rfl _ H fun w _=>by simp[execOp,resolve,invoke,builtin,hx,Builtin.cap_,goInt,run_underlying hu]
theorem zQo (m0:Nat)(a:Option Addr)(n c i b:Nat)(es:List En)(e:En)(h:Eng.Heap)(O:iV m0 h 39 4 a n c (zOS es))(h0h:m0<=h.size)(hn:n=es.length)(hi:i<=n)(hl:n<=900)
 (hb:h[b]? =some (.cells #[.int .i64 e.d,.int .i64 e.f,.int .i64 e.t,.int .i64 e.a] 39)) (hne:∀p,a=some p->p.block≠b):
 ak aF 43 #[.slice a n c,.int .i64 i,.slice (some ⟨b,0,none⟩) 1 1] h (fun v h'=>∃a' c',v= .slice a' (n+1) c'/\Row h' a' (zOS (es.take i++e::es.drop i))/\(∀p,a'=some p->m0<=p.block)/\∀h1,Ext h1 h->h1.size<=m0->Ext h1 h'):=by
 have hcap:=O.cap;have Ib:Row h (some ⟨b,0,none⟩) (zOS [e]):=Row.block (by simpa[zOS,enV]using hb);refine kJ Tryz.func43 rfl zYa ?_;simp only[Tryz.ntmps43,Tryz.results43];refine zBy (dI _ _ _ _ _ ?_);simp only[coreS,aC,af,Nat.reduceAdd,Nat.reduceSub,Nat.reduceMul,Nat.reduceLeDiff,Int.reduceEq,Nat.reduceEqDiff,zNz];refine zBy (dI _ _ _ _ _ ?_);simp only[coreS,aC,af,Nat.reduceAdd,Nat.reduceSub,Nat.reduceMul,Nat.reduceLeDiff,Int.reduceEq,Nat.reduceEqDiff,zNz];refine⟨by omega,by omega,by omega,by omega,?_⟩;refine zBy (dI _ _ _ _ _ ?_);simp only[coreS,aC,af,Nat.reduceAdd,Nat.reduceSub,Nat.reduceMul,Nat.reduceLeDiff,Int.reduceEq,Nat.reduceEqDiff,zNz];refine zBy (dI _ _ _ _ _ ?_);simp only[coreS,aC,af,Nat.reduceAdd,Nat.reduceSub,Nat.reduceMul,Nat.reduceLeDiff,Int.reduceEq,Nat.reduceEqDiff,zNz];refine⟨fun h1=>absurd h1 (by omega),fun _=> ?_⟩;refine zBy (dI _ _ _ _ _ ?_);simp only[coreS,aC,af,Nat.reduceAdd,Nat.reduceSub,Nat.reduceMul,Nat.reduceLeDiff,Int.reduceEq,Nat.reduceEqDiff,zNz];refine zBy (dI _ _ _ _ _ ?_);by_cases hin:i=n
 .have hin2:(i:Int)=(n:Int):=by omega
  simp only[hin2,decide_true,coreS,aC,af,Nat.reduceAdd,Nat.reduceSub,Nat.reduceMul,Nat.reduceLeDiff,Int.reduceEq,Nat.reduceEqDiff,zNz];refine zUi rfl rfl O h0h Ib rfl (by omega) fun a' c' h' O' A=> ?_
  simp only[coreS,aC,af,Nat.reduceAdd,Nat.reduceSub,Nat.reduceMul,Nat.reduceLeDiff,Int.reduceEq,Nat.reduceEqDiff,zNz];refine⟨a',c',rfl,?_,fun p hp=>(O'.lt hp).2,fun h1 x hm=>A.extV O x hm⟩;have:es.take i++e::es.drop i=es++[e]:=by rw[bD (by omega),List.drop_of_length_le (by omega)]
  rw[this];exact O'.row
 have hin2:¬(i:Int)=(n:Int):=by omega
 simp only[hin2,decide_false,coreS,aC,af,Nat.reduceAdd,Nat.reduceSub,Nat.reduceMul,Nat.reduceLeDiff,Int.reduceEq,Nat.reduceEqDiff,zNz];refine zBy (dI _ _ _ _ _ ?_);simp only[coreS,aC,af,Nat.reduceAdd,Nat.reduceSub,Nat.reduceMul,Nat.reduceLeDiff,Int.reduceEq,Nat.reduceEqDiff,zNz];rcases O.ok with⟨rfl,h1,h2⟩|⟨g,cur,rfl,q1,q2,q3,q4,q5⟩
 .omega
 have hgb:g≠b:=hne _ rfl;have hsp:cur.toList=zOS (es.take i)++(zOS (es.drop i)++cur.toList.drop (n*4)):=by
  have e1:zOS (es.take i)++zOS (es.drop i)=cur.toList.take (n*4):=by rw[<-zPk,kM,q5]
  rw[<-eQ,e1,kM]
 have lA:(zOS (es.take i)).length=i*4:=by rw[zOI,eD];omega
 have lD:(zOS (es.drop i)).length=(n-i)*4:=by rw[zOI,mI];omega
 have one:∀es:List En,∀u∈zOS es,u.oneCell'=true:=fun es u hu=>by
  simp only[zOS,NE,enV]at hu;obtain⟨e,_,hu⟩:=hu;simp at hu;rcases hu with rfl|rfl|rfl|rfl<;>rfl
 have efin:zOS (es.take i)++(enV e++zOS (es.drop i))=zOS (es.take i++e::es.drop i):=by rw[zPk,zQV]
 have lF:(zOS (es.take i++e::es.drop i)).length=(n+1)*4:=by rw[<-efin,cK,cK,lA,lD];simp[enV];omega
 have e1n:(n:Int)+((1:Nat):Int)=((n+1:Nat):Int):=by omega
 have e2n:((n+1:Nat):Int)-(i:Int)=((n+1-i:Nat):Int):=by omega
 have e3n:(i:Int)+((1:Nat):Int)=((i+1:Nat):Int):=by omega
 refine⟨by rw[zBS];omega,?_⟩;rw[zUq];refine zZa dM rfl ?_;simp only[e1n,coreS,aC,af,Nat.reduceAdd,Nat.reduceSub,Nat.reduceMul,Nat.reduceLeDiff,Int.reduceEq,Nat.reduceEqDiff,zNz];by_cases hroom:n+1<=c
 .refine⟨fun h1=>absurd h1 (by omega),fun _=> ?_⟩;refine zBy (dI _ _ _ _ _ ?_);simp only[e1n,coreS,aC,af,Nat.reduceAdd,Nat.reduceSub,Nat.reduceMul,Nat.reduceLeDiff,Int.reduceEq,Nat.reduceEqDiff,zNz];have f3:¬((c:Int)=(i:Int)):=by omega
  have t3:(((n+1:Nat):Int)-((0:Nat):Int)).toNat=n+1:=by omega
  have t2:((c:Int)-((0:Nat):Int)).toNat=c:=by omega
  simp only[f3,t3,t2,ite_self,if_false];refine⟨by rw[zBS];omega,by omega,by omega,by omega,by omega,?_⟩;refine zBy (zBy (Ym 6 ?_));simp only[Ty,e3n,coreS,aC,af,Nat.reduceAdd,Nat.reduceSub,Nat.reduceMul,Nat.reduceLeDiff,Int.reduceEq,Nat.reduceEqDiff,zNz];have f4:¬((c:Int)=((i+1:Nat):Int)):=by omega
  have t5:(((n+1:Nat):Int)-((i+1:Nat):Int)).toNat=n-i:=by omega
  have t4:(((n+1:Nat):Int)-(i:Int)).toNat=n+1-i:=by omega
  simp only[f4,if_false];refine⟨by rw[zBS];omega,by omega,by omega,by omega,by omega,?_⟩;refine zTJ rfl rfl hb q2 (Ne.symm hgb) (by omega) ?_;simp only[coreS,aC,af,Nat.reduceAdd,Nat.reduceSub,Nat.reduceMul,Nat.reduceLeDiff,Int.reduceEq,Nat.reduceEqDiff,zNz];refine zB4 (b:=true) rfl ?_;simp only[if_true];refine dI _ _ _ _ _ ?_;simp only[coreS,aC,af,Nat.reduceAdd,Nat.reduceSub,Nat.reduceMul,Nat.reduceLeDiff,Int.reduceEq,Nat.reduceEqDiff,zNz];refine zB9 (by kernel_rfl) zBp [(0,0),(1,0),(2,0),(3,0),(4,0),(5,0),(6,0),(7,0),(8,1)] (by kernel_rfl) rfl (by kernel_rfl) ?_;simp only[e3n,f4,t5,f3,t4,if_false,coreS,aC,af,Nat.reduceAdd,Nat.reduceSub,Nat.reduceMul,Nat.reduceLeDiff,Int.reduceEq,Nat.reduceEqDiff,drawS,zNz];refine⟨by rw[zBS];omega,by omega,by omega,by omega,by omega,by omega,by omega,by omega,by omega,?_⟩;have hrow1:Row h (some ⟨g,i*4,none⟩) (zOS (es.drop i)++(cur.toList.drop (n*4)).take 4):=by
   refine .inr ⟨g,i*4,cur,39,(0,0),rfl,q2,?_,?_⟩
   .rw[cK,lD,eD,mI,fo];omega
   .conv=>lhs;rw[hsp,<-lA,zw]
    rw[List.take_append,bD (by simp)];congr 1;simp[lA,lD];omega
  refine YB (s:=4) (cur:=cur.toList) dM dM zPK zQA rfl rfl (by simpa using q2) (by rw[fo];omega) hrow1 (by rw[cK,lD,eD,mI,fo];omega) ?_ fun h3 g3 u3=> ?_
  .intro u hu;rw[kE (by omega),bD (by omega)]at hu;exact one _ u hu
  rw[kE (by omega),bD (by omega)]at g3;simp only[Ye,f3,t4,if_false,coreS,aC,af,Nat.reduceAdd,Nat.reduceSub,Nat.reduceMul,Nat.reduceLeDiff,Int.reduceEq,Nat.reduceEqDiff,drawS,zNz];refine⟨by omega,by omega,by omega,by omega,?_⟩;have hI3:Row h3 (some ⟨b,0,none⟩) (zOS [e]):=Row.block (by simpa[zOS,enV]using u3.get hb (Ne.symm hgb));refine YB (s:=4) (off:=i*4) (n:=n+1-i) dM dM zPK zQA rfl rfl g3 (by simp[splice,lD];omega) hI3 (by rfl) (fun u hu=>one [e] u (eB hu)) fun h4 g4 u4=> ?_
  have e5:(zOS [e]).take ((n+1-i)*4)=enV e:=by
   rw[bD (by rw[zOI];simp;omega)];simp[zOS]
  rw[e5,hsp,zVO lA lD (by rw[mI,fo];omega) hi (by rfl),<-eQ (enV e),<-eQ,efin]at g4;simp only[coreS,aC,af,Nat.reduceAdd,Nat.reduceSub,Nat.reduceMul,Nat.reduceLeDiff,Int.reduceEq,Nat.reduceEqDiff,zNz];refine⟨_,_,rfl,?_,fun p hp=>(by cases hp;exact q1),fun h1 x hm=>u4.ext (u3.ext x (by omega)) (by omega)⟩;have:=Row.block g4;have:=this.take ((n+1)*4);rwa[kE (by omega),bD (by omega)]at this
 .refine⟨fun _=> ?_,fun h1=>absurd h1 (by omega)⟩;simp only[e2n];refine⟨by omega,by omega,by omega,by omega,by rw[zBS];omega,by rw[zBS];omega,?_⟩;have t1:((i:Int)-((0:Nat):Int)).toNat=i:=by omega
  have t2:((c:Int)-((0:Nat):Int)).toNat=c:=by omega
  simp only[t1,t2,ite_self];have hrow:Row h (some ⟨g,0,none⟩) (zOS (es.take i)):=by
   have:=O.row.take (i*4);rwa[zQy]at this
  refine Un (h0:=m0) (s:=4) (len:=i) (cap:=c) (k:=n+1-i) dM Tryz.underlying3 zPK zQA zPi rfl (by omega) rfl rfl hrow lA (by omega) (by omega) (by omega) (by rw[zQi];omega) h0h fun c2 h2 zs hz O2 x2=> ?_
  have hin3:i+(n+1-i)=n+1:=by omega
  rw[hin3]at O2 ⊢;simp only[coreS,aC,af,Nat.reduceAdd,Nat.reduceSub,Nat.reduceMul,Nat.reduceLeDiff,Int.reduceEq,Nat.reduceEqDiff,zNz];have c2n:=O2.cap;rcases O2.ok with⟨hno,_⟩|⟨B,cur2,hB,m1,m2,m3,m4,m5⟩
  .cases hno
  cases hB;have hgB:g≠h.size:=by have:=bA q2;omega
  have f1:¬((c2:Int)=(i:Int)):=by omega
  have f2:¬((c2:Int)=((i+1:Nat):Int)):=by omega
  have f3:¬((c:Int)=(i:Int)):=by omega
  have t4:(((n+1:Nat):Int)-(i:Int)).toNat=n+1-i:=by omega
  have t5:(((n+1:Nat):Int)-((i+1:Nat):Int)).toNat=n-i:=by omega
  have t6:((n:Int)-(i:Int)).toNat=n-i:=by omega
  simp only[f1,f3,t4,t6,if_false];refine⟨by omega,by omega,by omega,by omega,?_⟩;have hsp2:cur2.toList=zOS (es.take i)++(zs++cur2.toList.drop ((n+1)*4)):=by
   rw[<-eQ,<-m5,kM]
  have hl2:(n+1)*4<=cur2.toList.length:=by rw[fo];omega
  refine YB (s:=4) (cur:=cur2.toList) dM dM zPK zQA rfl rfl (by simpa using m2) (by omega) (Ib.ext x2) (by rfl) (fun u hu=>one [e] u (eB hu)) fun h3 g3 u3=> ?_
  have e5:(zOS [e]).take ((n+1-i)*4)=enV e:=by
   rw[bD (by rw[zOI];simp;omega)];simp[zOS]
  rw[e5]at g3;simp only[coreS,aC,af,Nat.reduceAdd,Nat.reduceSub,Nat.reduceMul,Nat.reduceLeDiff,Int.reduceEq,Nat.reduceEqDiff,zNz];refine zB9 (by kernel_rfl) zBp [(0,0),(1,0),(2,0),(3,0),(4,0),(5,0),(6,0),(7,0),(8,1)] (by kernel_rfl) rfl (by kernel_rfl) ?_;simp only[e3n,f2,t5,f3,t6,if_false,coreS,aC,af,Nat.reduceAdd,Nat.reduceSub,Nat.reduceMul,Nat.reduceLeDiff,Int.reduceEq,Nat.reduceEqDiff,drawS,zNz];refine⟨by rw[zBS];omega,by omega,by omega,by omega,by omega,by omega,by omega,by omega,by omega,?_⟩;have hrow1:Row h3 (some ⟨g,i*4,none⟩) (zOS (es.drop i)):=by
   refine .inr ⟨g,i*4,cur,39,(0,0),rfl,u3.get (x2.get q2) hgB,?_,?_⟩
   .rw[lD];omega
   .rw[hsp,<-lA,zw,zaR]
  refine YB (s:=4) dM dM zPK zQA rfl rfl g3 (by simp[splice,enV];omega) hrow1 lD (fun u hu=>one _ u (eB hu)) fun h4 g4 u4=> ?_
  rw[bD (by omega)]at g4;simp only[Ye,coreS,aC,af,Nat.reduceAdd,Nat.reduceSub,Nat.reduceMul,Nat.reduceLeDiff,Int.reduceEq,Nat.reduceEqDiff,drawS,zNz];rw[hsp2,zWF lA lD hz hi (by rfl),<-eQ (enV e),<-eQ,efin]at g4;refine⟨_,_,rfl,?_,fun p hp=>(by cases hp;exact h0h),fun h1 x hm=>u4.ext (u3.ext (x.trans x2) (by have:=x.size;omega)) (by have:=x.size;omega)⟩;have:=Row.block g4;have:=this.take ((n+1)*4);rwa[kE (by omega),bD (by omega)]at this
end
end Go.Proofs.YtejmkibjpaoahaaGreatDoor
end
section
namespace Go.Proofs.YtejmkibjpaoahaaGreatDoor
open Go Go.Proofs Go.Eng Tab
section
variable {day:Int}{e:En}{es:List En}{f i n t:Nat}{xs:List Int}
def amt (day i:Int)(e:En):Int:=if e.d<=day then(if e.t=i then e.a else 0)-(if e.f=i then e.a else 0)else 0
def zPO (es:List En)(day i:Int):Int:=(es.map (amt day i)).sum
def zOu (n:Nat)(es:List En)(day:Int):List Int:=(kD n).map fun i:Nat=>zPO es day i
theorem zOX (n:Nat)(es:List En)(day:Int):(zOu n es day).length=n:=by simp[zOu]
theorem zPw (es:List En)(day:Int)(hi:i<n):(zOu n es day).getD i 0=zPO es day i:=by simp[zOu,iq,hi]
theorem zPM (es fs:List En)(day i:Int):zPO (es++fs) day i=zPO es day i+zPO fs day i:=by simp[zPO]
theorem zPv (e:En)(es:List En)(day i:Int):zPO (e::es) day i=amt day i e+zPO es day i:=by simp[zPO]
theorem zSe (day i:Int):zPO [] day i=0:=rfl
theorem zSf (e:En)(day i:Int):zPO [e] day i=amt day i e:=by simp[zPO]
theorem zSh (n:Nat)(day:Int):zOu n [] day=bQ n 0:=by
 apply MO<;>simp[zOu,zPO]
theorem zUQ {acc:Int}(he:okE acc e)(day i:Int): -1000<=amt day i e/\amt day i e<=1000:=by
 obtain⟨_,_,_,h1,h2⟩:=he;unfold amt;split<;>(try split)<;>(try split)<;>omega
theorem zQ7 {acc:Int}(day i:Int):∀{es:List En},(∀e∈es,okE acc e)-> -(1000*(es.length:Int))<=zPO es day i/\zPO es day i<=1000*(es.length:Int)
 |[],_=>by simp[zPO]
 |e::es,H=>by
  have h1:=zUQ (H e (dn ..)) day i;have h2:=zQ7 day i (es:=es) fun x hx=>H x (cZ _ hx)
  rw[zPv,aZ]
  push_cast
  omega
theorem zP5 {ys:List Int}(hl:xs.length=ys.length)(H:∀i<xs.length,xs.getD i 0=ys.getD i 0):xs=ys:=by
 apply MO hl;intro i h1 h2;have:=H i h1;simpa[iq,aY h1,aY h2]using this
theorem zQm (xs:List Int)(i j:Nat)(v:Int):(xs.set i v).getD j 0=if i=j/\i<xs.length then v else xs.getD j 0:=by
 simp only[iq,vk];by_cases h:i=j
 .subst h;by_cases h2:i<xs.length<;>simp[h2]
 .simp[h]
def zRu (xs:List Int)(f t:Nat)(m:Int):List Int:=(xs.set f (xs.getD f 0-m)).set t ((xs.set f (xs.getD f 0-m)).getD t 0+m)
theorem zQG (xs:List Int)(f t:Nat)(m:Int):(zRu xs f t m).length=xs.length:=by simp[zRu]
theorem zRv (m:Int)(hf:f<xs.length)(ht:t<xs.length):(zRu xs f t m).getD i 0=xs.getD i 0-(if f=i then m else 0)+(if t=i then m else 0):=by
 simp only[zRu,zQm,Dn];by_cases h1:t=i<;>by_cases h2:f=i<;>by_cases h3:f=t<;>simp_all<;>omega
theorem zRp (hd:¬e.d<=day):zOu n (es++[e]) day=zOu n es day:=by
 unfold zOu;refine List.map_congr_left fun i _=> ?_
 rw[zPM,zSf,amt,if_neg hd];omega
theorem zRo (hd:e.d<=day)(hf:e.f=f)(ht:e.t=t)(hfn:f<n)(htn:t<n):zRu (zOu n es day) f t e.a=zOu n (es++[e]) day:=by
 refine zP5 (by rw[zQG,zOX,zOX]) fun i hi=> ?_
 rw[zQG,zOX]at hi;rw[zRv _ (by rw[zOX];exact hfn) (by rw[zOX];exact htn),zPw _ _ hi,zPw _ _ hi,zPM,zSf,amt,if_pos hd,hf,ht];simp only[Int.ofNat_inj];omega
theorem zUl {m:Nat}(es:List En)(day:Int)(h:m<=n):(zOu n es day).take m=zOu m es day:=by
 rw[zOu,<-Za,List.take_range,Nat.min_eq_left h];rfl
theorem zP2 (hi:i<es.length):es.take (i+1)=es.take i++[es[i]]:=by rw[List.take_add_one,aY hi];rfl
end
end Go.Proofs.YtejmkibjpaoahaaGreatDoor
end
section
namespace Go.Proofs.YtejmkibjpaoahaaGreatDoor
open Go Go.Proofs Go.Eng Go.Run Tab
set_option maxRecDepth 100000
set_option linter.unusedSimpArgs false
set_option linter.unusedVariables false
set_option maxHeartbeats 2000000
set_option linter.defProp false
def zNx:=(aD (aD (aD (aD @zQL @zRY) (aD @zRZ (aD @zQ4 @zQi))) (aD (aD @zQb (aD @zSP @zQc)) (aD @zQF (aD @zQN @zQO)))) (aD (aD (aD @zPs (aD @zR8 @zR9)) (aD @zPK (aD @zVZ @sz3))) (aD (aD @zTg (aD @zTh @zQA)) (aD @zTi (aD @zPi @Tryz.underlying33)))))
def zOy:=(aD (aD @zQL @zQF) (aD @zPs @sz3))
noncomputable instance (acc:Int)(e:En):Decidable (okE acc e):=Classical.propDecidable _
noncomputable def pst (acc cl:Int)(es:List En)(e:En):Int:=
 if chk acc cl es≠0 then chk acc cl es else if¬okE acc e then 3 else if e.f=e.t then 16 else if e.d<=cl then 25 else if es.length=20 then 6 else 0
def zST (es:List En)(e:En):Nat:=es.findIdx fun x=>decide (e.d<x.d)
def ins (es:List En)(e:En):List En:=es.take (zST es e)++e::es.drop (zST es e)
theorem zTx (es:List En)(e:En):zST es e<=es.length:=List.findIdx_le_length
theorem zPe (es:List En)(e:En):(ins es e).length=es.length+1:=by
 have:=zTx es e;simp only[ins,cK,eD,aZ,mI];omega
noncomputable def zS1 (acc cl:Int)(es:List En)(e:En):Int:=if pst acc cl es e=0 then acc else 0
noncomputable def zS2 (acc cl:Int)(es:List En)(e:En):Int:=if pst acc cl es e=0 then cl else 0
noncomputable def zQ2 (acc cl:Int)(es:List En)(e:En):List En:=if pst acc cl es e=0 then ins es e else[]
theorem zUS (x e:En)(b:Nat)(h:Eng.Heap)(hb:h[b]? =some (.cells #[.int .i64 e.d,.int .i64 e.f,.int .i64 e.t,.int .i64 e.a] 39)):
 ak aF 42 (#[]++ #[.agg #[.int .i64 x.d,.int .i64 x.f,.int .i64 x.t,.int .i64 x.a]]++ #[.pointer (some ⟨b,0,none⟩)]) h (fun v h'=>v= .bool (decide (e.d<x.d))/\Ext h h'):=by
 simp only[qb,lX,xz,cz,bK]
 (refine Rm Tryz.func42 rfl zY9 ?_;simp only[Tryz.ntmps42,Tryz.results42,coreS,U1,splice,aC,af,Nat.reduceAdd,Nat.reduceSub,Nat.reduceMul,Nat.reduceLeDiff,Int.reduceEq,Nat.reduceEqDiff,zOy])
 have hne:¬(b=h.size):=by have:=bA hb;omega
 simp only[hne,hb,if_false,coreS,aC,af,Nat.reduceAdd,Nat.reduceSub,Nat.reduceMul,Nat.reduceLeDiff,Int.reduceEq,Nat.reduceEqDiff,zOy];exact(Ext.refl h).push _
theorem zYF (acc cl:Int)(a:Option Addr)(n c:Nat)(es:List En)(e:En)(h:Eng.Heap)(hr:Row h a (zOS es))(hn:n=es.length)(hl:n<=1000000):
 ak aF 10 #[.agg #[.int .i64 acc,.int .i64 cl,.slice a n c],.agg #[.int .i64 e.d,.int .i64 e.f,.int .i64 e.t,.int .i64 e.a]] h (fun v h'=>
  (∃a' n' c',v= .tuple #[.agg #[.int .i64 (zS1 acc cl es e),.int .i64 (zS2 acc cl es e),.slice a' n' c'],.int .i64 (pst acc cl es e)]/\Row h' a' (zOS (zQ2 acc cl es e))/\n'=(zQ2 acc cl es e).length/\∀p,a'=some p->h.size<=p.block)/\Ext h h'):=by
 (refine Rm Tryz.func10 rfl zYW ?_;simp only[Tryz.ntmps10,Tryz.results10,coreS,U1,splice,aC,af,Nat.reduceAdd,Nat.reduceSub,Nat.reduceMul,Nat.reduceLeDiff,Int.reduceEq,Nat.reduceEqDiff,zNx])
 simp only[show¬(h.size=h.size+1+1) by omega,if_false,coreS,aC,af,Nat.reduceAdd,Nat.reduceSub,Nat.reduceMul,Nat.reduceLeDiff,Int.reduceEq,Nat.reduceEqDiff,zNx];refine ak.mono (zRQ acc cl a n c es _ (((hr.push _).push _).push _) hn hl) ?_;rintro v h1 ⟨rfl,x1⟩;have hb0:=x1.get (Jy (Jy (jD (h:=h))));have hb1:=x1.get (Jy pn1);have hb2:h1[h.size+2]? =some (.cells #[.int .i64 0,.int .i64 0,.slice none 0 0] 35):=x1.get (by rw[Array.getElem?_push,if_pos (by simp)]);have y1:=x1.zBe.zBe.zBe;have bad:∀{p:Int} {h2:Eng.Heap},pst acc cl es e=p->p≠0->Ext h h2->(∃a' n' c',Value.tuple #[.agg #[.int .i64 0,.int .i64 0,.slice none 0 0],.int .i64 p]= .tuple #[.agg #[.int .i64 (zS1 acc cl es e),.int .i64 (zS2 acc cl es e),.slice a' n' c'],.int .i64 (pst acc cl es e)]/\Row h2 a' (zOS (zQ2 acc cl es e))/\n'=(zQ2 acc cl es e).length/\∀p,a'=some p->h.size<=p.block)/\Ext h h2:=by
  rintro p h2 rfl hp x;exact⟨⟨none,0,0,by rw[zS1,zS2,if_neg hp,if_neg hp],by rw[zQ2,if_neg hp];exact .inl rfl,by rw[zQ2,if_neg hp];rfl,fun p hp=>(by cases hp)⟩,x⟩
 by_cases hc:chk acc cl es=0
 .obtain⟨ha,hl2,hcl,hok,hso,hft⟩:=zQx hc;simp only[hc,hb0,hb1,coreS,aC,af,Nat.reduceAdd,Nat.reduceSub,Nat.reduceMul,Nat.reduceLeDiff,Int.reduceEq,Nat.reduceEqDiff,zNx];refine ak.mono (zUM acc e _ (by omega)) ?_;rintro v h2 ⟨rfl,x2⟩;have c0:=x2.get hb0;have c1:=x2.get hb1;have c2:=x2.get hb2;have y2:=y1.trans x2;by_cases hoe:okE acc e
  .by_cases hee:e.f=e.t
   .have hp:pst acc cl es e=16:=by unfold pst;rw[if_neg (by simpa using hc),if_neg (by simpa using hoe),if_pos hee]
    simp only[hoe,hee,c0,c1,c2,decide_true,bE,coreS,aC,af,Nat.reduceAdd,Nat.reduceSub,Nat.reduceMul,Nat.reduceLeDiff,Int.reduceEq,Nat.reduceEqDiff,zNx];refine Oy c2 (by simp) fun h9 g9 u9=> ?_
    simp only[splice]at g9;simp only[g9,splice,coreS,aC,af,Nat.reduceAdd,Nat.reduceSub,Nat.reduceMul,Nat.reduceLeDiff,Int.reduceEq,Nat.reduceEqDiff,zNx];exact bad (hp) (by omega) (u9.ext y2 (by omega))
   by_cases hdc:e.d<=cl
   .have hp:pst acc cl es e=25:=by unfold pst;rw[if_neg (by simpa using hc),if_neg (by simpa using hoe),if_neg hee,if_pos hdc]
    simp only[hoe,hee,hdc,c0,c1,c2,decide_true,decide_false,bE,coreS,aC,af,Nat.reduceAdd,Nat.reduceSub,Nat.reduceMul,Nat.reduceLeDiff,Int.reduceEq,Nat.reduceEqDiff,zNx];refine Oy c2 (by simp) fun h9 g9 u9=> ?_
    simp only[splice]at g9;simp only[g9,splice,coreS,aC,af,Nat.reduceAdd,Nat.reduceSub,Nat.reduceMul,Nat.reduceLeDiff,Int.reduceEq,Nat.reduceEqDiff,zNx];exact bad (hp) (by omega) (u9.ext y2 (by omega))
   by_cases h20:(n:Int)=20
   .have hp:pst acc cl es e=6:=by unfold pst;rw[if_neg (by simpa using hc),if_neg (by simpa using hoe),if_neg hee,if_neg hdc,if_pos (by omega)]
    simp only[hoe,hee,hdc,h20,c0,c1,c2,decide_true,decide_false,bE,coreS,aC,af,Nat.reduceAdd,Nat.reduceSub,Nat.reduceMul,Nat.reduceLeDiff,Int.reduceEq,Nat.reduceEqDiff,zNx];refine Oy c2 (by simp) fun h9 g9 u9=> ?_
    simp only[splice]at g9;simp only[g9,splice,coreS,aC,af,Nat.reduceAdd,Nat.reduceSub,Nat.reduceMul,Nat.reduceLeDiff,Int.reduceEq,Nat.reduceEqDiff,zNx];exact bad (hp) (by omega) (u9.ext y2 (by omega))
   have hp:pst acc cl es e=0:=by unfold pst;rw[if_neg (by simpa using hc),if_neg (by simpa using hoe),if_neg hee,if_neg hdc,if_neg (by omega)]
   simp only[hoe,hee,hdc,h20,c0,c1,c2,decide_true,decide_false,bE,coreS,aC,af,Nat.reduceAdd,Nat.reduceSub,Nat.reduceMul,Nat.reduceLeDiff,Int.reduceEq,Nat.reduceEqDiff,zNx];refine ak.mono (zRJ a n c es 42 _ (fun x=>decide (e.d<x.d)) h2 (hr.ext y2) hn hl fun x _ h' x'=>zUS x e (h.size+1) h' (x'.get c1)) ?_;rintro v h3 ⟨rfl,x3⟩;have d0:=x3.get c0;have d1:=x3.get c1;have d2:=x3.get c2;have y3:=y2.trans x3;have hk:=zTx es e;obtain⟨k,hkd⟩:∃k,k=zST es e:=⟨_,rfl⟩;have hidx:zSs (fun x=>decide (e.d<x.d)) es=if k<es.length then(k:Int)else-1:=by
    rw[hkd,zST];unfold zSs;rw[List.findIdx?_eq_guard_findIdx_lt];by_cases h7:es.findIdx (fun x=>decide (e.d<x.d))<es.length
    .simp[h7,Option.guard]
    .simp[h7,Option.guard]
   by_cases hkl:k<es.length
   .rw[if_pos hkl]at hidx;simp only[hidx,coreS,aC,af,Nat.reduceAdd,Nat.reduceSub,Nat.reduceMul,Nat.reduceLeDiff,Int.reduceEq,Nat.reduceEqDiff,zNx];refine⟨fun h7=>absurd h7 (by omega),fun _=> ?_⟩;refine zBV (by kernel_rfl) zBc 2 5 [(0,0),(1,0),(3,0),(4,0)] [(6,1),(7,0),(8,1)] (by kernel_rfl) (by kernel_rfl) (by kernel_rfl) rfl (by kernel_rfl) ?_;simp only[Xi,Zo,zB8,d0,d1,coreS,aC,af,Nat.reduceAdd,Nat.reduceSub,Nat.reduceMul,Nat.reduceLeDiff,Int.reduceEq,Nat.reduceEqDiff,drawS,zNx];have hs3:=bA d2;refine zAL fun h4 x4=>⟨?_,?_⟩
    .simp only[zBR,coreS,aC,af,Nat.reduceAdd,Nat.reduceSub,Nat.reduceMul,Nat.reduceLeDiff,Int.reduceEq,Nat.reduceEqDiff,drawS,zNx];refine ak.mono (zRR a _ c es h4 (hr.ext (y3.trans x4)) hn (by omega)) ?_;rintro v h5 ⟨a5,c5,rfl,O5,x5⟩;refine⟨x5,fun h6 x6=> ?_⟩;simp only[splice,coreS,aC,af,Nat.reduceAdd,Nat.reduceSub,Nat.reduceMul,Nat.reduceLeDiff,Int.reduceEq,Nat.reduceEqDiff,drawS,zNx];refine⟨by omega,(Ext.refl h6).push _,?_⟩;refine Rj (by rfl) (by rfl) fun h7 x7=> ?_
     simp only[coreS,aC,af,Nat.reduceAdd,Nat.reduceSub,Nat.reduceMul,Nat.reduceLeDiff,Int.reduceEq,Nat.reduceEqDiff,drawS,zNx];have O7:=((O5.ext x6).ext ((Ext.refl h6).push _)).ext x7;have xs7:Ext h3 h7:=(((x4.trans x5).trans x6).push _).trans x7;have xle:h3.size<=h4.size:=x4.size;refine ak.mono (zQo h4.size a5 _ c5 k h6.size es e h7 O7 (by have:=x5.size;have:=x6.size;have:=x7.size;simp at this;omega) hn (by omega) (by omega) (x7.get jD) (fun p hp=>by have:=(O5.lt hp).1;have:=x6.size;omega)) ?_;rintro v h8 ⟨a8,c8,rfl,hrow8,hblk8,hx8⟩;have X8:=hx8 _ xs7 xle;have k0:=X8.get d0;have k2:=X8.get d2;simp only[coreS,aC,af,Nat.reduceAdd,Nat.reduceSub,Nat.reduceMul,Nat.reduceLeDiff,Int.reduceEq,Nat.reduceEqDiff,drawS,zNx];refine Rj (by rfl) (by rfl) fun h9 x9=> ?_
     simp only[x9.get k0,coreS,aC,af,Nat.reduceAdd,Nat.reduceSub,Nat.reduceMul,Nat.reduceLeDiff,Int.reduceEq,Nat.reduceEqDiff,drawS,zNx];refine Oy (x9.get k0) (by simp) fun h10 g10 u10=> ?_
     simp only[splice]at g10;simp only[Uw,PX,coreS,aC,af,Nat.reduceAdd,Nat.reduceSub,Nat.reduceMul,Nat.reduceLeDiff,Int.reduceEq,Nat.reduceEqDiff,drawS,zNx];refine zBw fun h11 x11=> ?_
     have g11:=x11.get g10;have k11:=x11.get (u10.get (x9.get k2) (by omega));have r11:=(zPX (hrow8.ext x9) u10 (fun p hp=>by have:=hblk8 p hp;omega)).ext x11;have X11:=(u10.ext (((y3.trans X8)).trans x9) (by omega)).trans x11;simp only[g11,k11,coreS,aC,af,Nat.reduceAdd,Nat.reduceSub,Nat.reduceMul,Nat.reduceLeDiff,Int.reduceEq,Nat.reduceEqDiff,zNx];refine Oy k11 (by simp) fun h12 g12 u12=> ?_
     simp only[splice]at g12;simp only[g12,splice,coreS,aC,af,Nat.reduceAdd,Nat.reduceSub,Nat.reduceMul,Nat.reduceLeDiff,Int.reduceEq,Nat.reduceEqDiff,zNx];refine⟨⟨a8,_,_,by rw[zS1,zS2,if_pos hp,if_pos hp,hp],?_,by rw[zQ2,if_pos hp,zPe,hn],fun p hp=>by have:=hblk8 p hp;have:=y3.size;omega⟩,u12.ext X11 (by omega)⟩;rw[zQ2,if_pos hp,ins,<-hkd];exact zPX r11 u12 (fun p hp=>by have:=hblk8 p hp;omega)
    .simp only[zBR,splice,coreS,aC,af,Nat.reduceAdd,Nat.reduceSub,Nat.reduceMul,Nat.reduceLeDiff,Int.reduceEq,Nat.reduceEqDiff,drawS,zNx];refine⟨by omega,(Ext.refl h4).push _,fun h5 x5=> ?_⟩;refine ak.mono (zRR a _ c es h5 (hr.ext (y3.trans (x4.trans (x5.zBe)))) hn (by omega)) ?_;rintro v h6 ⟨a5,c5,rfl,O5,x6⟩;refine⟨x6,?_⟩;refine Rj (by rfl) (by rfl) fun h7 x7=> ?_
     simp only[coreS,aC,af,Nat.reduceAdd,Nat.reduceSub,Nat.reduceMul,Nat.reduceLeDiff,Int.reduceEq,Nat.reduceEqDiff,drawS,zNx];have O7:=O5.ext x7;have xs7:Ext h3 h7:=((x4.trans x5.zBe).trans x6).trans x7;have xle:h3.size<=h5.size:=(x4.trans x5.zBe).size;refine ak.mono (zQo h5.size a5 _ c5 k h4.size es e h7 O7 (by have:=x6.size;have:=x7.size;omega) hn (by omega) (by omega) (x7.get (x6.get (x5.get jD))) (fun p hp=>by have:=(O5.lt hp).2;have:=x5.size;simp at this;omega)) ?_;rintro v h8 ⟨a8,c8,rfl,hrow8,hblk8,hx8⟩;have X8:=hx8 _ xs7 xle;have k0:=X8.get d0;have k2:=X8.get d2;simp only[coreS,aC,af,Nat.reduceAdd,Nat.reduceSub,Nat.reduceMul,Nat.reduceLeDiff,Int.reduceEq,Nat.reduceEqDiff,drawS,zNx];refine Rj (by rfl) (by rfl) fun h9 x9=> ?_
     simp only[x9.get k0,coreS,aC,af,Nat.reduceAdd,Nat.reduceSub,Nat.reduceMul,Nat.reduceLeDiff,Int.reduceEq,Nat.reduceEqDiff,drawS,zNx];refine Oy (x9.get k0) (by simp) fun h10 g10 u10=> ?_
     simp only[splice]at g10;simp only[Uw,PX,coreS,aC,af,Nat.reduceAdd,Nat.reduceSub,Nat.reduceMul,Nat.reduceLeDiff,Int.reduceEq,Nat.reduceEqDiff,drawS,zNx];refine zBw fun h11 x11=> ?_
     have g11:=x11.get g10;have k11:=x11.get (u10.get (x9.get k2) (by omega));have r11:=(zPX (hrow8.ext x9) u10 (fun p hp=>by have:=hblk8 p hp;omega)).ext x11;have X11:=(u10.ext (((y3.trans X8)).trans x9) (by omega)).trans x11;simp only[g11,k11,coreS,aC,af,Nat.reduceAdd,Nat.reduceSub,Nat.reduceMul,Nat.reduceLeDiff,Int.reduceEq,Nat.reduceEqDiff,zNx];refine Oy k11 (by simp) fun h12 g12 u12=> ?_
     simp only[splice]at g12;simp only[g12,splice,coreS,aC,af,Nat.reduceAdd,Nat.reduceSub,Nat.reduceMul,Nat.reduceLeDiff,Int.reduceEq,Nat.reduceEqDiff,zNx];refine⟨⟨a8,_,_,by rw[zS1,zS2,if_pos hp,if_pos hp,hp],?_,by rw[zQ2,if_pos hp,zPe,hn],fun p hp=>by have:=hblk8 p hp;have:=y3.size;omega⟩,u12.ext X11 (by omega)⟩;rw[zQ2,if_pos hp,ins,<-hkd];exact zPX r11 u12 (fun p hp=>by have:=hblk8 p hp;omega)
   .rw[if_neg hkl]at hidx;simp only[hidx,d0,coreS,aC,af,Nat.reduceAdd,Nat.reduceSub,Nat.reduceMul,Nat.reduceLeDiff,Int.reduceEq,Nat.reduceEqDiff,zNx];have hkn:k=n:=by omega
    subst hkn
    try (refine⟨fun _=> ?_,fun h7=>absurd h7 (by omega)⟩)
    refine zBV (by kernel_rfl) zBc 2 5 [(0,0),(1,0),(3,0),(4,0)] [(6,1),(7,0),(8,1)] (by kernel_rfl) (by kernel_rfl) (by kernel_rfl) rfl (by kernel_rfl) ?_;simp only[Xi,Zo,zB8,d0,d1,coreS,aC,af,Nat.reduceAdd,Nat.reduceSub,Nat.reduceMul,Nat.reduceLeDiff,Int.reduceEq,Nat.reduceEqDiff,drawS,zNx];have hs3:=bA d2;refine zAL fun h4 x4=>⟨?_,?_⟩
    .simp only[zBR,coreS,aC,af,Nat.reduceAdd,Nat.reduceSub,Nat.reduceMul,Nat.reduceLeDiff,Int.reduceEq,Nat.reduceEqDiff,drawS,zNx];refine ak.mono (zRR a _ c es h4 (hr.ext (y3.trans x4)) hn (by omega)) ?_;rintro v h5 ⟨a5,c5,rfl,O5,x5⟩;refine⟨x5,fun h6 x6=> ?_⟩;simp only[splice,coreS,aC,af,Nat.reduceAdd,Nat.reduceSub,Nat.reduceMul,Nat.reduceLeDiff,Int.reduceEq,Nat.reduceEqDiff,drawS,zNx];refine⟨by omega,(Ext.refl h6).push _,?_⟩;refine Rj (by rfl) (by rfl) fun h7 x7=> ?_
     simp only[coreS,aC,af,Nat.reduceAdd,Nat.reduceSub,Nat.reduceMul,Nat.reduceLeDiff,Int.reduceEq,Nat.reduceEqDiff,drawS,zNx];have O7:=((O5.ext x6).ext ((Ext.refl h6).push _)).ext x7;have xs7:Ext h3 h7:=(((x4.trans x5).trans x6).push _).trans x7;have xle:h3.size<=h4.size:=x4.size;refine ak.mono (zQo h4.size a5 _ c5 k h6.size es e h7 O7 (by have:=x5.size;have:=x6.size;have:=x7.size;simp at this;omega) hn (by omega) (by omega) (x7.get jD) (fun p hp=>by have:=(O5.lt hp).1;have:=x6.size;omega)) ?_;rintro v h8 ⟨a8,c8,rfl,hrow8,hblk8,hx8⟩;have X8:=hx8 _ xs7 xle;have k0:=X8.get d0;have k2:=X8.get d2;simp only[coreS,aC,af,Nat.reduceAdd,Nat.reduceSub,Nat.reduceMul,Nat.reduceLeDiff,Int.reduceEq,Nat.reduceEqDiff,drawS,zNx];refine Rj (by rfl) (by rfl) fun h9 x9=> ?_
     simp only[x9.get k0,coreS,aC,af,Nat.reduceAdd,Nat.reduceSub,Nat.reduceMul,Nat.reduceLeDiff,Int.reduceEq,Nat.reduceEqDiff,drawS,zNx];refine Oy (x9.get k0) (by simp) fun h10 g10 u10=> ?_
     simp only[splice]at g10;simp only[Uw,PX,coreS,aC,af,Nat.reduceAdd,Nat.reduceSub,Nat.reduceMul,Nat.reduceLeDiff,Int.reduceEq,Nat.reduceEqDiff,drawS,zNx];refine zBw fun h11 x11=> ?_
     have g11:=x11.get g10;have k11:=x11.get (u10.get (x9.get k2) (by omega));have r11:=(zPX (hrow8.ext x9) u10 (fun p hp=>by have:=hblk8 p hp;omega)).ext x11;have X11:=(u10.ext (((y3.trans X8)).trans x9) (by omega)).trans x11;simp only[g11,k11,coreS,aC,af,Nat.reduceAdd,Nat.reduceSub,Nat.reduceMul,Nat.reduceLeDiff,Int.reduceEq,Nat.reduceEqDiff,zNx];refine Oy k11 (by simp) fun h12 g12 u12=> ?_
     simp only[splice]at g12;simp only[g12,splice,coreS,aC,af,Nat.reduceAdd,Nat.reduceSub,Nat.reduceMul,Nat.reduceLeDiff,Int.reduceEq,Nat.reduceEqDiff,zNx];refine⟨⟨a8,_,_,by rw[zS1,zS2,if_pos hp,if_pos hp,hp],?_,by rw[zQ2,if_pos hp,zPe,hn],fun p hp=>by have:=hblk8 p hp;have:=y3.size;omega⟩,u12.ext X11 (by omega)⟩;rw[zQ2,if_pos hp,ins,<-hkd];exact zPX r11 u12 (fun p hp=>by have:=hblk8 p hp;omega)
    .simp only[zBR,splice,coreS,aC,af,Nat.reduceAdd,Nat.reduceSub,Nat.reduceMul,Nat.reduceLeDiff,Int.reduceEq,Nat.reduceEqDiff,drawS,zNx];refine⟨by omega,(Ext.refl h4).push _,fun h5 x5=> ?_⟩;refine ak.mono (zRR a _ c es h5 (hr.ext (y3.trans (x4.trans (x5.zBe)))) hn (by omega)) ?_;rintro v h6 ⟨a5,c5,rfl,O5,x6⟩;refine⟨x6,?_⟩;refine Rj (by rfl) (by rfl) fun h7 x7=> ?_
     simp only[coreS,aC,af,Nat.reduceAdd,Nat.reduceSub,Nat.reduceMul,Nat.reduceLeDiff,Int.reduceEq,Nat.reduceEqDiff,drawS,zNx];have O7:=O5.ext x7;have xs7:Ext h3 h7:=((x4.trans x5.zBe).trans x6).trans x7;have xle:h3.size<=h5.size:=(x4.trans x5.zBe).size;refine ak.mono (zQo h5.size a5 _ c5 k h4.size es e h7 O7 (by have:=x6.size;have:=x7.size;omega) hn (by omega) (by omega) (x7.get (x6.get (x5.get jD))) (fun p hp=>by have:=(O5.lt hp).2;have:=x5.size;simp at this;omega)) ?_;rintro v h8 ⟨a8,c8,rfl,hrow8,hblk8,hx8⟩;have X8:=hx8 _ xs7 xle;have k0:=X8.get d0;have k2:=X8.get d2;simp only[coreS,aC,af,Nat.reduceAdd,Nat.reduceSub,Nat.reduceMul,Nat.reduceLeDiff,Int.reduceEq,Nat.reduceEqDiff,drawS,zNx];refine Rj (by rfl) (by rfl) fun h9 x9=> ?_
     simp only[x9.get k0,coreS,aC,af,Nat.reduceAdd,Nat.reduceSub,Nat.reduceMul,Nat.reduceLeDiff,Int.reduceEq,Nat.reduceEqDiff,drawS,zNx];refine Oy (x9.get k0) (by simp) fun h10 g10 u10=> ?_
     simp only[splice]at g10;simp only[Uw,PX,coreS,aC,af,Nat.reduceAdd,Nat.reduceSub,Nat.reduceMul,Nat.reduceLeDiff,Int.reduceEq,Nat.reduceEqDiff,drawS,zNx];refine zBw fun h11 x11=> ?_
     have g11:=x11.get g10;have k11:=x11.get (u10.get (x9.get k2) (by omega));have r11:=(zPX (hrow8.ext x9) u10 (fun p hp=>by have:=hblk8 p hp;omega)).ext x11;have X11:=(u10.ext (((y3.trans X8)).trans x9) (by omega)).trans x11;simp only[g11,k11,coreS,aC,af,Nat.reduceAdd,Nat.reduceSub,Nat.reduceMul,Nat.reduceLeDiff,Int.reduceEq,Nat.reduceEqDiff,zNx];refine Oy k11 (by simp) fun h12 g12 u12=> ?_
     simp only[splice]at g12;simp only[g12,splice,coreS,aC,af,Nat.reduceAdd,Nat.reduceSub,Nat.reduceMul,Nat.reduceLeDiff,Int.reduceEq,Nat.reduceEqDiff,zNx];refine⟨⟨a8,_,_,by rw[zS1,zS2,if_pos hp,if_pos hp,hp],?_,by rw[zQ2,if_pos hp,zPe,hn],fun p hp=>by have:=hblk8 p hp;have:=y3.size;omega⟩,u12.ext X11 (by omega)⟩;rw[zQ2,if_pos hp,ins,<-hkd];exact zPX r11 u12 (fun p hp=>by have:=hblk8 p hp;omega)
  .have hp:pst acc cl es e=3:=by unfold pst;rw[if_neg (by simpa using hc),if_pos hoe]
   simp only[hoe,c2,decide_false,bP,coreS,aC,af,Nat.reduceAdd,Nat.reduceSub,Nat.reduceMul,Nat.reduceLeDiff,Int.reduceEq,Nat.reduceEqDiff,zNx];refine Oy c2 (by simp) fun h9 g9 u9=> ?_
   simp only[splice]at g9;simp only[g9,splice,coreS,aC,af,Nat.reduceAdd,Nat.reduceSub,Nat.reduceMul,Nat.reduceLeDiff,Int.reduceEq,Nat.reduceEqDiff,zNx];exact bad (hp) (by omega) (u9.ext y2 (by omega))
 .have hp:pst acc cl es e=chk acc cl es:=by unfold pst;rw[if_pos hc]
  simp only[hc,hb2,decide_false,bP,coreS,aC,af,Nat.reduceAdd,Nat.reduceSub,Nat.reduceMul,Nat.reduceLeDiff,Int.reduceEq,Nat.reduceEqDiff,zNx];refine Oy hb2 (by simp) fun h9 g9 u9=> ?_
  simp only[splice]at g9;simp only[g9,splice,coreS,aC,af,Nat.reduceAdd,Nat.reduceSub,Nat.reduceMul,Nat.reduceLeDiff,Int.reduceEq,Nat.reduceEqDiff,zNx];exact bad (hp) (hc) (u9.ext y1 (by omega))
end Go.Proofs.YtejmkibjpaoahaaGreatDoor
end
section
namespace Go.Proofs.YtejmkibjpaoahaaGreatDoor
open Go Go.Proofs Go.Eng Tab
section
variable {acc cl:Int}{e:En}{es:List En}
set_option linter.unusedSimpArgs false
set_option linter.unusedVariables false
theorem zQH (e:En):ins [] e=[e]:=by simp[ins,zST]
theorem zPL (x e:En)(xs:List En):ins (x::xs) e=if e.d<x.d then e::x::xs else x::ins xs e:=by
 unfold ins zST;by_cases h:e.d<x.d<;>simp[List.findIdx_cons,h]
theorem zU9:zPp es<->es.Pairwise fun a b=>a.d<=b.d:=by
 rw[List.pairwise_iff_getElem];constructor
 .intro H i j hi hj hij;induction j with
  |zero=>omega
  |succ j ih=>
   have h1:=H j hj;by_cases h2:i=j
   .subst h2;exact h1
   .have:=ih (by omega) (by omega);omega
 .intro H i hi;exact H i (i+1) (by omega) hi (by omega)
theorem zSL:chk acc cl es=0<->(2<=acc/\acc<=8)/\es.length<=20/\(0<=cl/\cl<=30)/\(∀e∈es,okE acc e)/\(es.Pairwise fun a b=>a.d<=b.d)/\∀e∈es,e.f≠e.t:=by
 rw[<-zU9];constructor
 .exact zQx
 .rintro⟨h1,h2,h3,h4,h5,h6⟩;unfold chk;rw[if_neg,if_neg,if_neg]
  .rintro(h|⟨e,he,h⟩)
   .exact h h5
   .exact h6 e he h
  .rintro(h|h)
   .exact h h3
   .exact h h4
  .rintro(h|h)
   .exact h h1
   .omega
theorem zUL:pst acc cl es e=0<->chk acc cl es=0/\okE acc e/\e.f≠e.t/\cl<e.d/\es.length≠20:=by
 unfold pst;split
 .rename_i h;exact⟨fun hh=>absurd hh h,fun hh=>absurd hh.1 h⟩
 rename_i h0;split
 .rename_i h;exact⟨fun hh=>(by omega),fun hh=>absurd hh.2.1 h⟩
 rename_i h1;split
 .rename_i h;exact⟨fun hh=>(by omega),fun hh=>absurd h hh.2.2.1⟩
 rename_i h2;split
 .rename_i h;exact⟨fun hh=>(by omega),fun hh=>(by have:=hh.2.2.2.1;omega)⟩
 rename_i h3;split
 .rename_i h;exact⟨fun hh=>(by omega),fun hh=>absurd h hh.2.2.2.2⟩
 rename_i h4;exact⟨fun _=>⟨Classical.not_not.1 h0,Classical.not_not.1 h1,h2,by omega,h4⟩,fun _=>rfl⟩
theorem zYB {day:Int}(hc:chk acc cl es=0)(hd:0<=day/\day<=30):opn acc cl es [day]=0:=by
 rw[opn,if_neg (by simpa using hc),if_pos (by rw[zPI];simpa using hd)]
end
end Go.Proofs.YtejmkibjpaoahaaGreatDoor
end
section
namespace Go.Proofs.YtejmkibjpaoahaaGreatDoor
section
variable {k:Nat}{w:Nat->Int}
set_option linter.unusedSimpArgs false
set_option linter.unusedVariables false
def zOp (w:Nat->Int)(k:Nat):List En:=(kD k).map fun i=>⟨(i:Nat)+1,0,1,w i-w (i+1)⟩
theorem zP1 (w:Nat->Int)(k:Nat):(zOp w k).length=k:=by simp[zOp]
theorem zTH (w:Nat->Int)(k:Nat):zOp w (k+1)=zOp w k++[⟨(k:Nat)+1,0,1,w k-w (k+1)⟩]:=by simp[zOp,zaJ]
theorem zTy {e:En}:∀{es:List En},(∀x∈es,x.d<=e.d)->ins es e=es++[e]
 |[],_=>zQH e
 |x::xs,h=>by
  have h1:=h x dn;rw[zPL,if_neg (by omega),zTy fun y hy=>h y (cZ _ hy)];rfl
theorem zSZ {x:En}(h:x∈zOp w k):∃i,i<k/\x=⟨(i:Nat)+1,0,1,w i-w (i+1)⟩:=by
 obtain⟨i,hi,rfl⟩:=gL.1 h;exact⟨i,List.mem_range.1 hi,rfl⟩
theorem zWY (w:Nat->Int)(k:Nat):ins (zOp w k) ⟨(k:Nat)+1,0,1,w k-w (k+1)⟩=zOp w (k+1):=by
 rw[zTH];refine zTy fun x hx=> ?_
 obtain⟨i,hi,rfl⟩:=zSZ hx;simp only[];omega
theorem zSY (hk:k<=10)(h:∀i,i<k->1<=w i-w (i+1)/\w i-w (i+1)<=1000):chk 2 0 (zOp w k)=0:=by
 refine zSL.2 ⟨by omega,by rw[zP1];omega,by omega,fun e he=> ?_,?_,fun e he=> ?_⟩
 .obtain⟨i,hi,rfl⟩:=zSZ he;have:=h i hi;unfold okE;simp only[];omega
 .unfold zOp;rw[List.pairwise_map];refine List.Pairwise.imp (fun{a b} hab=> ?_) List.pairwise_lt_range;simp only[];omega
 .obtain⟨i,hi,rfl⟩:=zSZ he;simp
theorem zWZ (hk:k<10)(h:∀i,i<k+1->1<=w i-w (i+1)/\w i-w (i+1)<=1000):pst 2 0 (zOp w k) ⟨(k:Nat)+1,0,1,w k-w (k+1)⟩=0:=by
 refine zUL.2 ⟨zSY (by omega) fun i hi=>h i (by omega),?_,by simp,by simp only[];omega,by rw[zP1];omega⟩;have:=h k (by omega);unfold okE;simp only[];omega
theorem zUH (w:Nat->Int)(day:Nat):∀k,zPO (zOp w k) day 0=w (min k day)-w 0/\zPO (zOp w k) day 1=w 0-w (min k day)
 |0=>by simp[zOp,zPO]
 |k+1=>by
  have ih:=zUH w day k;rw[zTH,zPM,zPM,zPv,zPv,zSe,zSe,ih.1,ih.2];unfold amt;by_cases hd:k+1<=day
  .rw[show min (k+1) day=k+1 by omega,show min k day=k by omega];simp only[show((k:Nat):Int)+1<=(day:Int) by omega,if_true];simp;omega
  .rw[show min (k+1) day=day by omega,show min k day=day by omega];simp only[show¬(((k:Nat):Int)+1<=(day:Int)) by omega,if_false];simp
end
end Go.Proofs.YtejmkibjpaoahaaGreatDoor
end
section
namespace Go.Proofs.YtejmkibjpaoahaaGreatDoor
open Go Go.Proofs Go.Eng Tab
set_option maxRecDepth 100000
set_option linter.unusedSimpArgs false
set_option linter.unusedVariables false
set_option maxHeartbeats 1000000
set_option linter.defProp false
def zON:=(aD (aD @zPd @by2) (aD @zP0 (aD @sz2 @Tryz.underlying48)))
def zOR:=(aD (aD (aD (aD @zUh (aD @zPd @zQL)) (aD @zRY (aD @zQ4 @zQi))) (aD (aD @zWB (aD @zQc @zQF)) (aD (aD @zQN @zQO) (aD @zQz @zVK)))) (aD (aD (aD @zP0 (aD @zPs @zR8)) (aD (aD @zPK @zWs) (aD @sz2 @sz3))) (aD (aD @zTg (aD @zQA @zUP)) (aD (aD @zPi @Tryz.underlying33) (aD @Tryz.underlying48 @Tryz.underlying103)))))
def zO6:=(aD (aD @zPd @zP0) (aD @sz2 @Tryz.underlying103))
theorem zWT (a b:Option Addr)(n c m k:Nat)(xs ys:List Int)(h:Eng.Heap)(hx:eu h a n xs)(hy:eu h b m ys)(hl:n<=1000000)(hm:m<=1000000):
 ak aF 24 #[.slice a n c,.slice b m k] h (fun v h'=>v= .bool (decide (xs=ys))/\h'=h):=by
 have hn:=hx.len;have hn2:=hy.len
 (refine Rm Tryz.func24 rfl zY5 ?_;simp only[Tryz.ntmps24,Tryz.results24,coreS,U1,splice,aC,af,Nat.reduceAdd,Nat.reduceSub,Nat.reduceMul,Nat.reduceLeDiff,Int.reduceEq,Nat.reduceEqDiff,zON])
 by_cases he:n=m
 .subst he;simp only[decide_true,bE,coreS,aC,af,Nat.reduceAdd,Nat.reduceSub,Nat.reduceMul,Nat.reduceLeDiff,Int.reduceEq,Nat.reduceEqDiff,zON];refine zAi [4,5,11,12,13,14,15,16,17,18,19,20,21,22,23,24,25] (fun g h'=>h'=h/\∃i:Nat,i<=n/\g 5= .int .i64 i/\∀j<i,xs.getD j 0=ys.getD j 0) (fun g _=>match g 5 with| .int _ m=>n-m.toNat|_=>0) ⟨rfl,0,by omega,rfl,fun j hj=>by omega⟩ ?_;rintro g h' ⟨rfl,i,hin,hg,hno⟩;by_cases hi:i<n
  .simp only[hg,coreS,aC,af,Nat.reduceAdd,Nat.reduceSub,Nat.reduceMul,Nat.reduceLeDiff,Int.reduceEq,Nat.reduceEqDiff,zON];refine⟨fun _=> ?_,fun hge=>absurd hge (by omega)⟩;refine zB9 (by kernel_rfl) zBp [(0,0),(1,0),(2,0),(3,0),(4,0),(5,0),(6,0),(7,0),(8,0)] (by kernel_rfl) rfl (by kernel_rfl) ?_;simp only[hg,hx.cell (j:=i) (by omega),hy.cell (j:=i) (by omega),bi,Ye,coreS,aC,af,Nat.reduceAdd,Nat.reduceSub,Nat.reduceMul,Nat.reduceLeDiff,Int.reduceEq,Nat.reduceEqDiff,drawS,zON]
   repeat (refine aD (by first|omega|(rw[zBS];omega)|rfl|assumption|(exact hx.isSome (by omega))|(exact hy.isSome (by omega))) ?_)
   by_cases hxy:xs.getD i 0=ys.getD i 0
   .simp only[hxy,decide_true,bE,coreS,aC,af,Nat.reduceAdd,Nat.reduceSub,Nat.reduceMul,Nat.reduceLeDiff,Int.reduceEq,Nat.reduceEqDiff,zON];refine⟨by rw[zBS];omega,Zr (by kernel_rfl) ⟨rfl,i+1,by omega,rfl,fun j hj=> ?_⟩ ?_⟩
    .by_cases hji:j=i
     .subst hji;exact hxy
     .exact hno j (by omega)
    .show n-((i:Int)+1).toNat<n-(i:Int).toNat;omega
   .have hne:¬xs=ys:=fun hh=>hxy (by rw[hh])
    simp only[hxy,decide_false,bP,coreS,aC,af,Nat.reduceAdd,Nat.reduceSub,Nat.reduceMul,Nat.reduceLeDiff,Int.reduceEq,Nat.reduceEqDiff,zON];simp[hne]
  .have hxy:xs=ys:=zP5 (by omega) fun j hj=>hno j (by omega)
   simp only[hg,coreS,aC,af,Nat.reduceAdd,Nat.reduceSub,Nat.reduceMul,Nat.reduceLeDiff,Int.reduceEq,Nat.reduceEqDiff,zON];refine⟨fun hlt=>absurd hlt (by omega),fun _=> ?_⟩;simp[hxy]
 .have hne:¬xs=ys:=fun hh=>he (by rw[hn,hn2,hh])
  have he2:¬(n:Int)=m:=by omega
  simp only[he2,decide_false,bP,coreS,aC,af,Nat.reduceAdd,Nat.reduceSub,Nat.reduceMul,Nat.reduceLeDiff,Int.reduceEq,Nat.reduceEqDiff,zON];simp[hne]
theorem zWE (g:Nat)(xs:List Int)(f t:Nat)(m:Int)(h:Eng.Heap)(hb:h[g]? =some (.cells (ints xs).toArray 103))(hl:xs.length=8)(hf:f<8)(ht:t<8)
 (o1:InK .i64 (xs.getD f 0-m)) (o2:InK .i64 ((xs.set f (xs.getD f 0-m)).getD t 0+m)):
 ak aF 56 #[.pointer (some ⟨g,0,none⟩),.int .i64 f,.int .i64 t,.int .i64 m] h (fun v h'=>h'[g]? =some (.cells (ints (zRu xs f t m)).toArray 103)/\Upd h h' g):=by
 (refine Rm Tryz.func56 rfl zYg ?_;simp only[Tryz.ntmps56,Tryz.results56,coreS,U1,splice,aC,af,Nat.reduceAdd,Nat.reduceSub,Nat.reduceMul,Nat.reduceLeDiff,Int.reduceEq,Nat.reduceEqDiff,zO6])
 refine zB9 (by kernel_rfl) zBp [(0,0),(1,0),(2,0),(3,0),(4,0),(5,0),(6,0),(7,0),(8,0),(9,1)] (by kernel_rfl) rfl (by kernel_rfl) ?_;simp only[hb,Cn xs f (by omega),bi,coreS,aC,af,Nat.reduceAdd,Nat.reduceSub,Nat.reduceMul,Nat.reduceLeDiff,Int.reduceEq,Nat.reduceEqDiff,drawS,zO6]
 repeat (refine aD (by first|omega|(rw[zBS];omega)|rfl|assumption) ?_)
 refine Oy hb (by simp[aR];omega) fun h2 g2 u2=> ?_
 rw[MN _ _ _ (by rw[aR];omega),ints_set]at g2;simp only[Ye,coreS,aC,af,Nat.reduceAdd,Nat.reduceSub,Nat.reduceMul,Nat.reduceLeDiff,Int.reduceEq,Nat.reduceEqDiff,drawS,zO6];refine zB9 (by kernel_rfl) zBp [(0,0),(1,0),(2,0),(3,0),(4,0),(5,0),(6,0),(7,0),(8,0),(9,1)] (by kernel_rfl) rfl (by kernel_rfl) ?_;simp only[g2,Cn (xs.set f (xs.getD f 0-m)) t (by simp;omega),bi,Ye,coreS,aC,af,Nat.reduceAdd,Nat.reduceSub,Nat.reduceMul,Nat.reduceLeDiff,Int.reduceEq,Nat.reduceEqDiff,drawS,zO6]
 repeat (refine aD (by first|omega|(rw[zBS];omega)|rfl|assumption) ?_)
 refine Oy g2 (by simp[aR];omega) fun h3 g3 u3=> ?_
 rw[MN _ _ _ (by simp[aR];omega),ints_set]at g3;simp only[Ye,coreS,aC,af,Nat.reduceAdd,Nat.reduceSub,Nat.reduceMul,Nat.reduceLeDiff,Int.reduceEq,Nat.reduceEqDiff,drawS,zO6];exact⟨g3,u2.trans u3⟩
theorem zZB {h:Eng.Heap}{er:Env}{ty ct:TypeId}{x:Operand}{g off n c:Nat}{cur:List Value}{K:Value->Eng.Heap->Prop}(hx:ev er x= .slice (some ⟨g,off,none⟩) n c)(hb:h[g]? =some (.cells cur.toArray ct (0,0)))(hl:off+n<=cur.length)
 (H:∀h',h'[g]? =some (.cells (splice cur off (bQ n (.int .i64 0))).toArray ct (0,0))->Upd h h' g->K (.tuple #[]) h'):aI aF (.call ⟨.builtin .clear,#[x],#[48]⟩) ty er h K:=
 Xl vC zQv hx hb hl H
theorem zZC {h:Eng.Heap}{er:Env}{ty ct:TypeId}{x y:Operand}{b:Option Addr}{g off n c m c2:Nat}{cur:List Value}{ys:List Int}{K:Value->Eng.Heap->Prop}(hx:ev er x= .slice (some ⟨g,off,none⟩) n c)(hy:ev er y= .slice b m c2)(hb:h[g]? =some (.cells cur.toArray ct (0,0)))(hl:off+n<=cur.length)(I:eu h b m ys)
 (H:∀h',h'[g]? =some (.cells (splice cur off (ints (ys.take n))).toArray ct (0,0))->Upd h h' g->K (.int .i64 (min m n:Nat)) h'):aI aF (.call ⟨.builtin .copy,#[x,y],#[48,48]⟩) ty er h K:=
 Y9 vC vC zP0 sz2 hx hy hb hl I H
theorem zTU (g0:Nat)(acc cl:Int)(a:Option Addr)(n c:Nat)(es:List En)(day:Int)(h:Eng.Heap)(hb0:h[g0]? =some (.cells #[.int .i64 acc,.int .i64 cl,.slice a n c] 181))(hr:Row h a (zOS es))(hn:n=es.length)(hl:n<=20)(hok:∀e∈es,okE acc e)(ha:acc<=8)(hne:∀e∈es,e.f≠e.t):
 ak aF 50 #[.pointer (some ⟨g0,0,none⟩),.int .i64 day] h (fun v h'=>v= .agg (ints (zOu 8 es day)).toArray/\Ext h h'):=by
 (refine Rm Tryz.func50 rfl zYf ?_;simp only[Tryz.ntmps50,Tryz.results50,coreS,U1,splice,aC,af,Nat.reduceAdd,Nat.reduceSub,Nat.reduceMul,Nat.reduceLeDiff,Int.reduceEq,Nat.reduceEqDiff,zOR])
 have e8:(((8:Nat):Int)-((0:Nat):Int)).toNat=8:=rfl;simp only[ite_self,e8];refine⟨by omega,by omega,by omega,by omega,?_⟩;have hb1:=jD (h:=h.push (.cells #[.int .i64 0,.int .i64 0,.int .i64 0,.int .i64 0,.int .i64 0,.int .i64 0,.int .i64 0,.int .i64 0] 103)) (o:= .cells #[.int .i64 0,.int .i64 0,.int .i64 0,.int .i64 0,.int .i64 0,.int .i64 0,.int .i64 0,.int .i64 0] 103);rw[Rh]at hb1;refine zZB (cur:=[.int .i64 0,.int .i64 0,.int .i64 0,.int .i64 0,.int .i64 0,.int .i64 0,.int .i64 0,.int .i64 0]) rfl hb1 (by simp) fun h1 g1 u1=> ?_
 have x1:Ext h h1:=u1.ext (((Ext.refl h).push _).push _) (by omega);have q4:h1[h.size]? =some (.cells #[.int .i64 0,.int .i64 0,.int .i64 0,.int .i64 0,.int .i64 0,.int .i64 0,.int .i64 0,.int .i64 0] 103):=u1.get pn0 (by omega)
 replace g1:h1[h.size+1]? =some (.cells (ints (zOu 8 (es.take 0) day)).toArray 103):=by rw[zA,zSh];exact g1
 have hb2:=x1.get hb0;simp only[hb2,coreS,aC,af,Nat.reduceAdd,Nat.reduceSub,Nat.reduceMul,Nat.reduceLeDiff,Int.reduceEq,Nat.reduceEqDiff,zOR];refine zAi [7,15,16,17,18,19,20,21,22,23,24,25,26,27,28,29,30] (fun g h'=>∃i:Nat,i<=n/\g 15= .int .i64 i/\h'[h.size+1]? =some (.cells (ints (zOu 8 (es.take i) day)).toArray 103)/\h'[h.size]? =some (.cells #[.int .i64 0,.int .i64 0,.int .i64 0,.int .i64 0,.int .i64 0,.int .i64 0,.int .i64 0,.int .i64 0] 103)/\Ext h h') (fun g _=>match g 15 with| .int _ m=>n-m.toNat|_=>0) ⟨0,by omega,rfl,g1,q4,x1⟩ ?_;rintro g h' ⟨i,hin,hg,hb,hq,hx⟩;have hlt:h.size+1<h'.size:=bA hb;by_cases hi:i<es.length
 .have hsm:a.isSome=true:=hr.isSome (by rw[zOI];omega);have hc1:=zRj (hr.ext hx) hi;have hoe:=hok _ (bS hi);have hfe:=hne _ (bS hi);obtain⟨f,hf⟩:∃f:Nat,es[i].f=f:=⟨es[i].f.toNat,by unfold okE at hoe;omega⟩;obtain⟨t,ht⟩:∃t:Nat,es[i].t=t:=⟨es[i].t.toNat,by unfold okE at hoe;omega⟩;have hf8:f<8:=by unfold okE at hoe;omega
  have ht8:t<8:=by unfold okE at hoe;omega
  have hft:f≠t:=by omega
  rw[hf,ht]at hc1;simp only[hg,hc1,coreS,aC,af,Nat.reduceAdd,Nat.reduceSub,Nat.reduceMul,Nat.reduceLeDiff,Int.reduceEq,Nat.reduceEqDiff,zOR];refine⟨fun _=> ?_,fun hge=>absurd hge (by omega)⟩;refine⟨by omega,hsm,?_⟩;simp only[coreS,U1,splice,aC,af,Nat.reduceAdd,Nat.reduceSub,Nat.reduceMul,Nat.reduceLeDiff,Int.reduceEq,Nat.reduceEqDiff,zOR];refine⟨fun hd=> ?_,fun hd=> ?_⟩
  .have hb':(h'.push (.cells #[.int .i64 es[i].d,.int .i64 f,.int .i64 t,.int .i64 es[i].a] 39))[h.size+1]? =some (.cells (ints (zOu 8 (es.take i) day)).toArray 103):=Jy hb;have hA:∀k,-(20000:Int)<=zPO (es.take i) day k/\zPO (es.take i) day k<=20000:=fun k=>by
    have:=zQ7 day k (es:=es.take i) fun e he=>hok e (eB he)
    have h2:(es.take i).length<=20:=by rw[eD];omega
    omega
   have h1:=hA f;have h2:=hA t;have h3:1<=es[i].a/\es[i].a<=1000:=hoe.2.2.2;refine ak.mono (zWE (h.size+1) _ f t es[i].a _ hb' (zOX ..) hf8 ht8 ?_ ?_) ?_
   .rw[zPw _ _ hf8,zBS];omega
   .rw[zQm,if_neg (by omega),zPw _ _ ht8,zBS];omega
   .rintro v h3 ⟨g3,u3⟩;rw[zRo hd hf ht hf8 ht8,<-zP2 hi]at g3;simp only[coreS,aC,af,Nat.reduceAdd,Nat.reduceSub,Nat.reduceMul,Nat.reduceLeDiff,Int.reduceEq,Nat.reduceEqDiff,zOR];refine⟨by rw[zBS];omega,Zr (by kernel_rfl) ⟨i+1,by omega,rfl,g3,u3.get (Jy hq) (by omega),u3.ext (hx.push _) (by omega)⟩ ?_⟩;show n-((i:Int)+1).toNat<n-(i:Int).toNat;omega
  .refine⟨by rw[zBS];omega,Zr (by kernel_rfl) ⟨i+1,by omega,rfl,?_,Jy hq,hx.push _⟩ ?_⟩
   .rw[zP2 hi,zRp (by omega)];exact Jy hb
   .show n-((i:Int)+1).toNat<n-(i:Int).toNat;omega
 .obtain rfl:i=n:=by omega
  rw[bD (by omega)]at hb;obtain⟨b0,b1,b2,b3,b4,b5,b6,b7,h8⟩:∃b0 b1 b2 b3 b4 b5 b6 b7:Int,zOu 8 es day=[b0,b1,b2,b3,b4,b5,b6,b7]:=⟨_,_,_,_,_,_,_,_,rfl⟩
  replace hb:h'[h.size+1]? =some (.cells #[.int .i64 b0,.int .i64 b1,.int .i64 b2,.int .i64 b3,.int .i64 b4,.int .i64 b5,.int .i64 b6,.int .i64 b7] 103):=by rw[hb,h8];rfl
  simp only[hg,hb,hq,coreS,aC,af,Nat.reduceAdd,Nat.reduceSub,Nat.reduceMul,Nat.reduceLeDiff,Int.reduceEq,Nat.reduceEqDiff,zOR];refine⟨fun hlt=>absurd hlt (by omega),fun _=> ?_⟩;refine Oy hq (by simp) fun h3 g3 u3=> ?_
  simp only[splice]at g3;simp only[g3,coreS,U1,splice,aC,af,Nat.reduceAdd,Nat.reduceSub,Nat.reduceMul,Nat.reduceLeDiff,Int.reduceEq,Nat.reduceEqDiff,zOR];refine⟨by rw[h8];rfl,u3.ext hx (by omega)⟩
end Go.Proofs.YtejmkibjpaoahaaGreatDoor
end
