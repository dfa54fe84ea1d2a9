/- Lemmas. No condition. -/
import Derived.Test.YtejmkibjpaoahaaGreatDoorQ1
import Derived.KernelRfl
import Derived.Test.YtejmkibjpaoahaaGreatDoorProg
import Derived.Lib.AppendZerosOnto
import Derived.Lib.Overlaps
set_option linter.unusedSimpArgs false
set_option linter.unusedVariables false
set_option linter.defProp false
section
namespace Go.Proofs.YtejmkibjpaoahaaGreatDoor.Tab
open Go Go.Proofs Go.Eng
theorem sz2:szT Tryz.prog 2=1:=by kernel_rfl
theorem by2:iA Tryz.prog 2=8:=by kernel_rfl
theorem inf2:(Tryz.prog.info? 2).isSome=true:=by kernel_rfl
theorem agg2:zF Tryz.prog 2=some false:=by kernel_rfl
theorem zero2:dJ Tryz.prog 2=some (.int .i64 0):=by kernel_rfl
theorem sz3:szT Tryz.prog 3=1:=by kernel_rfl
theorem by3:iA Tryz.prog 3=8:=by kernel_rfl
theorem inf3:(Tryz.prog.info? 3).isSome=true:=by kernel_rfl
theorem agg3:zF Tryz.prog 3=some false:=by kernel_rfl
theorem zero3:dJ Tryz.prog 3=some (.int .i64 0):=by kernel_rfl
theorem sz29:szT Tryz.prog 29=1:=by kernel_rfl
theorem by29:iA Tryz.prog 29=24:=by kernel_rfl
theorem inf29:(Tryz.prog.info? 29).isSome=true:=by kernel_rfl
theorem agg29:zF Tryz.prog 29=some false:=by kernel_rfl
theorem zero29:dJ Tryz.prog 29=some (.slice none 0 0):=by kernel_rfl
theorem sz33:szT Tryz.prog 33=1:=by kernel_rfl
theorem inf33:(Tryz.prog.info? 33).isSome=true:=by kernel_rfl
theorem agg33:zF Tryz.prog 33=some false:=by kernel_rfl
theorem sz35:szT Tryz.prog 35=3:=by kernel_rfl
theorem inf35:(Tryz.prog.info? 35).isSome=true:=by kernel_rfl
theorem agg35:zF Tryz.prog 35=some true:=by kernel_rfl
theorem zero35:dJ Tryz.prog 35=some (.agg #[.int .i64 0,.int .i64 0,.slice none 0 0]):=by kernel_rfl
theorem okf35:jh Tryz.prog 35=true:=by kernel_rfl
theorem fo35_0:jG Tryz.prog 35 0=some 0:=by kernel_rfl
theorem fps35_0:mF Tryz.prog 35 0=some (0,1):=by kernel_rfl
theorem fo35_1:jG Tryz.prog 35 1=some 1:=by kernel_rfl
theorem fo35_2:jG Tryz.prog 35 2=some 2:=by kernel_rfl
theorem sz39:szT Tryz.prog 39=4:=by kernel_rfl
theorem by39:iA Tryz.prog 39=32:=by kernel_rfl
theorem inf39:(Tryz.prog.info? 39).isSome=true:=by kernel_rfl
theorem agg39:zF Tryz.prog 39=some true:=by kernel_rfl
theorem zero39:dJ Tryz.prog 39=some (.agg #[.int .i64 0,.int .i64 0,.int .i64 0,.int .i64 0]):=by kernel_rfl
theorem okf39:jh Tryz.prog 39=true:=by kernel_rfl
theorem fo39_0:jG Tryz.prog 39 0=some 0:=by kernel_rfl
theorem fps39_0:mF Tryz.prog 39 0=some (0,1):=by kernel_rfl
theorem fo39_1:jG Tryz.prog 39 1=some 1:=by kernel_rfl
theorem fps39_1:mF Tryz.prog 39 1=some (1,1):=by kernel_rfl
theorem fo39_2:jG Tryz.prog 39 2=some 2:=by kernel_rfl
theorem fps39_2:mF Tryz.prog 39 2=some (2,1):=by kernel_rfl
theorem fo39_3:jG Tryz.prog 39 3=some 3:=by kernel_rfl
theorem fps39_3:mF Tryz.prog 39 3=some (3,1):=by kernel_rfl
theorem sz103:szT Tryz.prog 103=8:=by kernel_rfl
theorem inf103:(Tryz.prog.info? 103).isSome=true:=by kernel_rfl
theorem agg103:zF Tryz.prog 103=some true:=by kernel_rfl
theorem zero103:dJ Tryz.prog 103=some (.agg #[.int .i64 0,.int .i64 0,.int .i64 0,.int .i64 0,.int .i64 0,.int .i64 0,.int .i64 0,.int .i64 0]):=by kernel_rfl
theorem zero181:dJ Tryz.prog 181=some (.agg #[.int .i64 0,.int .i64 0,.slice none 0 0]):=by kernel_rfl
theorem okf181:jh Tryz.prog 181=true:=by kernel_rfl
theorem fo181_0:jG Tryz.prog 181 0=some 0:=by kernel_rfl
theorem fps181_0:mF Tryz.prog 181 0=some (0,3):=by kernel_rfl
theorem sz184:szT Tryz.prog 184=1:=by kernel_rfl
theorem by184:iA Tryz.prog 184=8:=by kernel_rfl
theorem inf184:(Tryz.prog.info? 184).isSome=true:=by kernel_rfl
theorem agg184:zF Tryz.prog 184=some true:=by kernel_rfl
theorem zero184:dJ Tryz.prog 184=some (.agg #[.int .i64 0]):=by kernel_rfl
theorem okf184:jh Tryz.prog 184=true:=by kernel_rfl
theorem fo184_0:jG Tryz.prog 184 0=some 0:=by kernel_rfl
theorem fps184_0:mF Tryz.prog 184 0=some (0,1):=by kernel_rfl
theorem sz185:szT Tryz.prog 185=1:=by kernel_rfl
theorem by185:iA Tryz.prog 185=24:=by kernel_rfl
theorem inf185:(Tryz.prog.info? 185).isSome=true:=by kernel_rfl
theorem agg185:zF Tryz.prog 185=some false:=by kernel_rfl
theorem zero185:dJ Tryz.prog 185=some (.slice none 0 0):=by kernel_rfl
theorem zero212:dJ Tryz.prog 212=some (.agg #[.int .i64 0,.slice none 0 0]):=by kernel_rfl
theorem okf212:jh Tryz.prog 212=true:=by kernel_rfl
theorem fps212_0:mF Tryz.prog 212 0=some (0,1):=by kernel_rfl
theorem fo212_1:jG Tryz.prog 212 1=some 1:=by kernel_rfl
theorem fps212_1:mF Tryz.prog 212 1=some (1,1):=by kernel_rfl
theorem zero216:dJ Tryz.prog 216=some (.agg #[.int .i64 0,.slice none 0 0,.int .i64 0,.int .i64 0,.int .i64 0,.int .i64 0]):=by kernel_rfl
theorem okf216:jh Tryz.prog 216=true:=by kernel_rfl
theorem fo216_0:jG Tryz.prog 216 0=some 0:=by kernel_rfl
theorem fps216_0:mF Tryz.prog 216 0=some (0,2):=by kernel_rfl
theorem fo216_1:jG Tryz.prog 216 1=some 2:=by kernel_rfl
theorem bod5:qA Tryz.prog 5=true:=by kernel_rfl
theorem bod11:qA Tryz.prog 11=true:=by kernel_rfl
theorem bod15:qA Tryz.prog 15=true:=by kernel_rfl
theorem bod17:qA Tryz.prog 17=true:=by kernel_rfl
theorem bod25:qA Tryz.prog 25=true:=by kernel_rfl
theorem bod26:qA Tryz.prog 26=true:=by kernel_rfl
theorem bod27:qA Tryz.prog 27=true:=by kernel_rfl
theorem bod28:qA Tryz.prog 28=true:=by kernel_rfl
theorem bod29:qA Tryz.prog 29=true:=by kernel_rfl
theorem bod39:qA Tryz.prog 39=true:=by kernel_rfl
theorem bod40:qA Tryz.prog 40=true:=by kernel_rfl
theorem bod41:qA Tryz.prog 41=true:=by kernel_rfl
theorem bod46:qA Tryz.prog 46=true:=by kernel_rfl
theorem bod47:qA Tryz.prog 47=true:=by kernel_rfl
theorem bod50:qA Tryz.prog 50=true:=by kernel_rfl
theorem bod51:qA Tryz.prog 51=true:=by kernel_rfl
theorem bod52:qA Tryz.prog 52=true:=by kernel_rfl
theorem bod56:qA Tryz.prog 56=true:=by kernel_rfl
theorem bod73:qA Tryz.prog 73=true:=by kernel_rfl
theorem bod74:qA Tryz.prog 74=true:=by kernel_rfl
theorem bod75:qA Tryz.prog 75=true:=by kernel_rfl
theorem bod76:qA Tryz.prog 76=true:=by kernel_rfl
theorem bod77:qA Tryz.prog 77=true:=by kernel_rfl
theorem bod94:qA Tryz.prog 94=true:=by kernel_rfl
theorem bod100:qA Tryz.prog 100=true:=by kernel_rfl
theorem bod101:qA Tryz.prog 101=true:=by kernel_rfl
theorem bod102:qA Tryz.prog 102=true:=by kernel_rfl
theorem bod103:qA Tryz.prog 103=true:=by kernel_rfl
theorem bod104:qA Tryz.prog 104=true:=by kernel_rfl
theorem bod107:qA Tryz.prog 107=true:=by kernel_rfl
theorem bod109:qA Tryz.prog 109=true:=by kernel_rfl
theorem bod110:qA Tryz.prog 110=true:=by kernel_rfl
theorem bod111:qA Tryz.prog 111=true:=by kernel_rfl
theorem bod112:qA Tryz.prog 112=true:=by kernel_rfl
theorem bod130:qA Tryz.prog 130=true:=by kernel_rfl
theorem bod131:qA Tryz.prog 131=true:=by kernel_rfl
theorem bod132:qA Tryz.prog 132=true:=by kernel_rfl
theorem bod133:qA Tryz.prog 133=true:=by kernel_rfl
theorem bod161:qA Tryz.prog 161=true:=by kernel_rfl
theorem bod164:qA Tryz.prog 164=true:=by kernel_rfl
theorem bod166:qA Tryz.prog 166=true:=by kernel_rfl
theorem bod167:qA Tryz.prog 167=true:=by kernel_rfl
theorem bod168:qA Tryz.prog 168=true:=by kernel_rfl
theorem bod169:qA Tryz.prog 169=true:=by kernel_rfl
theorem bod187:qA Tryz.prog 187=true:=by kernel_rfl
theorem bod235:qA Tryz.prog 235=true:=by kernel_rfl
theorem bod237:qA Tryz.prog 237=true:=by kernel_rfl
theorem bod238:qA Tryz.prog 238=true:=by kernel_rfl
end Go.Proofs.YtejmkibjpaoahaaGreatDoor.Tab
end
section
namespace Go.Proofs.YtejmkibjpaoahaaGreatDoor
open Go Go.Proofs Go.Eng Tab
set_option maxRecDepth 100000
set_option linter.unusedSimpArgs false
set_option linter.unusedVariables false
set_option maxHeartbeats 1000000
set_option linter.defProp false
def YtejmkibjpaoahaaGreatDoorA1Fs107:=(And.intro @agg3 (And.intro @inf3 @sz3))
def YtejmkibjpaoahaaGreatDoorA1Fs161:=(And.intro (And.intro @agg3 @by3) (And.intro @inf3 (And.intro @sz3 @Tryz.underlying29)))
theorem within113 (n lo hi:Int)(p q:Nat)(h:Heap)(hp:h[p]? =some (.cells #[.int .i64 lo] 3))(hq:h[q]? =some (.cells #[.int .i64 hi] 3)):
 ak Tryz.prog 107 (#[]++ #[.int .i64 n]++ #[.pointer (some ⟨p,0,none⟩),.pointer (some ⟨q,0,none⟩)]) h (fun v h'=>v= .bool (decide (n<lo)||decide (hi<n))/\Ext h h'):=by
 simp only[Array.append_empty,Array.empty_append,List.append_toArray,List.cons_append,List.nil_append]
 (refine Rm Tryz.func107 rfl bod107 ?_;simp only[Tryz.ntmps107,Tryz.results107,coreS,U1,splice,Value.cells,Value.oneCell',Nat.reduceAdd,Nat.reduceSub,Nat.reduceMul,Nat.reduceLeDiff,Int.reduceEq,Nat.reduceEqDiff,YtejmkibjpaoahaaGreatDoorA1Fs107])
 simp only[hp,hq,coreS,U1,splice,Value.cells,Value.oneCell',Nat.reduceAdd,Nat.reduceSub,Nat.reduceMul,Nat.reduceLeDiff,Int.reduceEq,Nat.reduceEqDiff,YtejmkibjpaoahaaGreatDoorA1Fs107];constructor
 .intro h1;simp[h1,Ext.refl]
 .intro h1;simp[h1,Ext.refl]
def idx (p:Int->Bool)(xs:List Int):Int:=match xs.findIdx? p with|some i=>i|none=> -1
theorem idx_none {p:Int->Bool}{xs:List Int}(H:∀j<xs.length,p (xs.getD j 0)=false):idx p xs= -1:=by
 have:xs.findIdx? p=none:=by
  rw[List.findIdx?_eq_none_iff];intro x hx;obtain⟨j,hj,rfl⟩:=List.getElem_of_mem hx;have:=H j hj;simpa[List.getD,List.getElem?_eq_getElem hj]using this
 simp[idx,this]
theorem idx_some {p:Int->Bool}{xs:List Int}{i:Nat}(hi:i<xs.length)(H:∀j<i,p (xs.getD j 0)=false)(hp:p (xs.getD i 0)=true):idx p xs=i:=by
 have:xs.findIdx? p=some i:=by
  rw[List.findIdx?_eq_some_iff_getElem];refine⟨hi,by simpa[List.getD,List.getElem?_eq_getElem hi]using hp,fun j hj=> ?_⟩;have hj':j<xs.length:=by omega
  have:=H j hj;simpa[List.getD,List.getElem?_eq_getElem hj']using this
 simp[idx,this]
theorem indexFunc138 (a:Option Addr)(n c:Nat)(xs:List Int)(q:FuncId)(caps:Array Value)(p:Int->Bool)(h:Heap)(hs:eu h a n xs)(hl:n<=1000000)
 (hq:∀x∈xs,∀h',Ext h h'->ak Tryz.prog q (#[]++ #[.int .i64 x]++caps) h' (fun v h''=>v= .bool (p x)/\Ext h' h'')):
 ak Tryz.prog 161 #[.slice a n c,.func (.func q) #[] caps] h (fun v h'=>v= .int .i64 (idx p xs)/\Ext h h'):=by
 have hn:=hs.len
 (refine Rm Tryz.func161 rfl bod161 ?_;simp only[Tryz.ntmps161,Tryz.results161,coreS,U1,splice,Value.cells,Value.oneCell',Nat.reduceAdd,Nat.reduceSub,Nat.reduceMul,Nat.reduceLeDiff,Int.reduceEq,Nat.reduceEqDiff,YtejmkibjpaoahaaGreatDoorA1Fs161])
 refine zAi [4,5,8,9,10,11,12,13,14,15,16,17,18] (fun g h'=>∃i:Nat,i<=n/\g 8= .int .i64 i/\(∀j<i,p (xs.getD j 0)=false)/\Ext h h') (fun g _=>match g 8 with| .int _ m=>n-m.toNat|_=>0) ?_ ?_
 .exact⟨0,by omega,rfl,fun j hj=>by omega,Ext.refl h⟩
 .intro g h' hI;obtain⟨i,hin,hg8,hno,hx⟩:=hI;by_cases hi:i<xs.length
  .simp only[hg8,(hs.ext hx).cell hi,coreS,Value.cells,Value.oneCell',Nat.reduceAdd,Nat.reduceSub,Nat.reduceMul,Nat.reduceLeDiff,Int.reduceEq,Nat.reduceEqDiff,YtejmkibjpaoahaaGreatDoorA1Fs161];refine⟨fun hlt=>⟨⟨by omega,by omega⟩,(hs.ext hx).isSome (by omega),?_⟩,fun hge=>absurd hge (by omega)⟩;have hmem:xs.getD i 0∈xs:=by simp[List.getD,List.getElem?_eq_getElem hi]
   refine ak.mono (hq _ hmem _ hx) ?_;rintro v h2 ⟨rfl,hx2⟩;cases hp:p (xs.getD i 0)
   .simp only[coreS,Value.cells,Value.oneCell',Nat.reduceAdd,Nat.reduceSub,Nat.reduceMul,Nat.reduceLeDiff,Int.reduceEq,Nat.reduceEqDiff,YtejmkibjpaoahaaGreatDoorA1Fs161];refine⟨by rw[zBS];omega,Zr (by kernel_rfl) ⟨i+1,by omega,rfl,?_,hx.trans hx2⟩ ?_⟩
    .intro j hj;by_cases hji:j=i
     .subst hji;exact hp
     .exact hno j (by omega)
    .show n-((i:Int)+1).toNat<n-(i:Int).toNat;omega
   .simp only[coreS,Value.cells,Value.oneCell',Nat.reduceAdd,Nat.reduceSub,Nat.reduceMul,Nat.reduceLeDiff,Int.reduceEq,Nat.reduceEqDiff,YtejmkibjpaoahaaGreatDoorA1Fs161];exact⟨by rw[idx_some hi hno hp],hx.trans hx2⟩
  .simp only[hg8,coreS,Value.cells,Value.oneCell',Nat.reduceAdd,Nat.reduceSub,Nat.reduceMul,Nat.reduceLeDiff,Int.reduceEq,Nat.reduceEqDiff,YtejmkibjpaoahaaGreatDoorA1Fs161];refine⟨fun hlt=>absurd hlt (by omega),fun hge=> ?_⟩;exact⟨by rw[idx_none fun j hj=>hno j (by omega)],hx⟩
theorem containsFunc112 (a:Option Addr)(n c:Nat)(xs:List Int)(q:FuncId)(caps:Array Value)(p:Int->Bool)(h:Heap)(hs:eu h a n xs)(hl:n<=1000000)
 (hq:∀x∈xs,∀h',Ext h h'->ak Tryz.prog q (#[]++ #[.int .i64 x]++caps) h' (fun v h''=>v= .bool (p x)/\Ext h' h'')):
 ak Tryz.prog 94 #[.slice a n c,.func (.func q) #[] caps] h (fun v h'=>v= .bool (xs.any p)/\Ext h h'):=by
 (refine Rm Tryz.func94 rfl bod94 ?_;simp only[Tryz.ntmps94,Tryz.results94,coreS,U1,splice,Value.cells,Value.oneCell',Nat.reduceAdd,Nat.reduceSub,Nat.reduceMul,Nat.reduceLeDiff,Int.reduceEq,Nat.reduceEqDiff])
 refine ak.mono (indexFunc138 a n c xs q caps p h hs hl hq) ?_;rintro v h2 ⟨rfl,hx⟩;simp only[coreS,Value.cells,Value.oneCell',Nat.reduceAdd,Nat.reduceSub,Nat.reduceMul,Nat.reduceLeDiff,Int.reduceEq,Nat.reduceEqDiff];refine⟨?_,hx⟩;congr 1;unfold idx;cases hf:xs.findIdx? p with
 |none=>
  rw[List.findIdx?_eq_none_iff]at hf;have:xs.any p=false:=by rw[List.any_eq_false];intro x hx;simp[hf x hx]
  simp[this]
 |some i=>
  rw[List.findIdx?_eq_some_iff_getElem]at hf;obtain⟨hi,hp,_⟩:=hf;have:xs.any p=true:=by rw[List.any_eq_true];exact⟨xs[i],List.getElem_mem hi,hp⟩
  simp[this]
def inB (lo hi:Int)(xs:List Int):Bool:=xs.all fun x=>decide (lo<=x)&&decide (x<=hi)
theorem within71 (lo hi:Int)(a:Option Addr)(n c:Nat)(xs:List Int)(h:Heap)(hs:eu h a n xs)(hl:n<=1000000):
 ak Tryz.prog 47 #[.int .i64 lo,.int .i64 hi,.slice a n c] h (fun v h'=>v= .bool (inB lo hi xs)/\Ext h h'):=by
 (refine Rm Tryz.func47 rfl bod47 ?_;simp only[Tryz.ntmps47,Tryz.results47,coreS,U1,splice,Value.cells,Value.oneCell',Nat.reduceAdd,Nat.reduceSub,Nat.reduceMul,Nat.reduceLeDiff,Int.reduceEq,Nat.reduceEqDiff])
 refine ak.mono (containsFunc112 a n c xs 107 _ (fun x=>decide (x<lo)||decide (hi<x)) _ ((hs.push _).push _) hl ?_) ?_
 .intro x _ h' hx;exact within113 x lo hi _ _ h' (hx.get (by simp only[uo,Rh,Nat.left_eq_add,Nat.succ_ne_self,if_false,if_true])) (hx.get (by simp only[uo,Rh,if_true]))
 .rintro v h2 ⟨rfl,hx⟩;simp only[coreS,Value.cells,Value.oneCell',Nat.reduceAdd,Nat.reduceSub,Nat.reduceMul,Nat.reduceLeDiff,Int.reduceEq,Nat.reduceEqDiff];refine⟨?_,hx.zBe.zBe⟩;congr 1;simp only[inB,List.not_any_eq_all_not];congr 1;funext x;by_cases h1:x<lo<;>by_cases h2:hi<x<;>simp[h1,h2,Int.not_lt.1,Int.not_le]<;>omega
end Go.Proofs.YtejmkibjpaoahaaGreatDoor
end
section
namespace Go.Proofs.YtejmkibjpaoahaaGreatDoor
open Go Go.Proofs Go.Eng Tab
section
variable {h:Eng.Heap}{x:Int}
set_option maxRecDepth 100000
set_option linter.unusedSimpArgs false
set_option linter.unusedVariables false
set_option maxHeartbeats 1000000
set_option linter.defProp false
def YtejmkibjpaoahaaGreatDoorA2Fs40:=(And.intro (And.intro (And.intro @agg2 (And.intro @agg3 @by3)) (And.intro @fo39_0 (And.intro @fo39_1 @fo39_2))) (And.intro (And.intro @fo39_3 (And.intro @inf2 @inf3)) (And.intro (And.intro @sz2 @sz3) (And.intro @zero3 @Tryz.underlying29))))
def YtejmkibjpaoahaaGreatDoorA2Fs41:=(And.intro (And.intro @agg39 @by39) (And.intro @inf39 (And.intro @sz39 @Tryz.underlying33)))
def YtejmkibjpaoahaaGreatDoorA2Fs100:=(And.intro (And.intro @agg3 (And.intro @agg39 @fo35_0)) (And.intro (And.intro @inf3 @inf39) (And.intro @sz3 @sz39)))
def YtejmkibjpaoahaaGreatDoorA2Fs101:=(And.intro (And.intro @agg3 @fo39_0) (And.intro @inf3 @sz3))
def YtejmkibjpaoahaaGreatDoorA2Fs103:=(And.intro (And.intro @agg39 @by39) (And.intro @inf39 (And.intro @sz39 @Tryz.underlying33)))
def YtejmkibjpaoahaaGreatDoorA2Fs104:=(And.intro (And.intro @agg3 @fo39_1) (And.intro @fo39_2 (And.intro @inf3 @sz3)))
theorem intsV_one {b:Nat}{ct:TypeId}{fr:Nat×Nat}(hb:h[b]? =some (.cells #[.int .i64 x] ct fr)):eu h (some ⟨b,0,none⟩) 1 [x]:=eu.block (xs:=[x]) hb
theorem pn1 {o o':Obj}:((h.push o).push o')[h.size+1]? =some o':=by rw[Array.getElem?_push,if_pos (by simp)]
theorem pn0 {o o':Obj}:((h.push o).push o')[h.size]? =some o:=by rw[Array.getElem?_push,if_neg (by simp)];exact jD
theorem intsV_two {b:Nat}{y:Int}{ct:TypeId}{fr:Nat×Nat}(hb:h[b]? =some (.cells #[.int .i64 x,.int .i64 y] ct fr)):eu h (some ⟨b,0,none⟩) 2 [x,y]:=eu.block (xs:=[x,y]) hb
theorem inB_one {lo hi:Int}:inB lo hi [x]=decide (lo<=x/\x<=hi):=by simp[inB]
theorem inB_two {lo hi y:Int}:inB lo hi [x,y]=decide ((lo<=x/\x<=hi)/\lo<=y/\y<=hi):=by simp[inB]
structure En where
 d:Int
 f:Int
 t:Int
 a:Int
 deriving DecidableEq
def enV (e:En):List Value:=[.int .i64 e.d,.int .i64 e.f,.int .i64 e.t,.int .i64 e.a]
def ensV (es:List En):List Value:=es.flatMap enV
theorem ensV_cons (e:En)(es:List En):ensV (e::es)=enV e++ensV es:=rfl
theorem ensV_append (es fs:List En):ensV (es++fs)=ensV es++ensV fs:=by simp[ensV]
theorem ensV_length (es:List En):(ensV es).length=es.length*4:=by
 induction es with
 |nil=>rfl
 |cons e es ih=>rw[ensV_cons,List.length_append,ih];simp[enV];omega
theorem ensV_drop:∀(es:List En) (j:Nat),(ensV es).drop (j*4)=ensV (es.drop j)
 |es,0=>by simp
 |[],j+1=>by simp[ensV]
 |e::es,j+1=>by
  have e1:(j+1)*4=4+j*4:=by omega
  rw[ensV_cons,e1,<-List.drop_drop];have:(enV e++ensV es).drop 4=ensV es:=by simp[enV]
  rw[this,ensV_drop es j];rfl
theorem ensV_take:∀(es:List En) (j:Nat),(ensV es).take (j*4)=ensV (es.take j)
 |es,0=>by simp[ensV]
 |[],j+1=>by simp[ensV]
 |e::es,j+1=>by
  have e1:(j+1)*4=4+j*4:=by omega
  rw[ensV_cons,e1,List.take_add];have h1:(enV e++ensV es).take 4=enV e:=by simp[enV]
  have h2:(enV e++ensV es).drop 4=ensV es:=by simp[enV]
  rw[h1,h2,ensV_take es j];rfl
theorem ensV_get (es:List En)(j:Nat)(hj:j<es.length):((ensV es).drop (j*4)).take 4=enV es[j]:=by
 have h1:((ensV es).drop (j*4)).take (1*4)=ensV ((es.drop j).take 1):=by rw[ensV_drop,ensV_take]
 rw[Nat.one_mul]at h1;rw[h1,List.drop_eq_getElem_cons hj];simp only[List.take_succ_cons,List.take_zero,ensV,List.flatMap_cons,List.flatMap_nil,List.append_nil]
def okE (acc:Int)(e:En):Prop:=(1<=e.d/\e.d<=30)/\(0<=e.f/\e.f<acc)/\(0<=e.t/\e.t<acc)/\(1<=e.a/\e.a<=1000)
instance (acc:Int)(e:En):Decidable (okE acc e):=by unfold okE;infer_instance
theorem stray65 (acc:Int)(e:En)(h:Eng.Heap)(ha: -9223372036854775808<acc/\acc<=9223372036854775807):
 ak Tryz.prog 40 #[.int .i64 acc,.agg #[.int .i64 e.d,.int .i64 e.f,.int .i64 e.t,.int .i64 e.a]] h (fun v h'=>v= .bool (!decide (okE acc e))/\Ext h h'):=by
 (refine Rm Tryz.func40 rfl bod40 ?_;simp only[Tryz.ntmps40,Tryz.results40,coreS,U1,splice,Value.cells,Value.oneCell',Nat.reduceAdd,Nat.reduceSub,Nat.reduceMul,Nat.reduceLeDiff,Int.reduceEq,Nat.reduceEqDiff,YtejmkibjpaoahaaGreatDoorA2Fs40])
 refine ak.mono (within71 1 30 _ 1 1 [e.d] _ (intsV_one pn1) (by omega)) ?_;rintro v h1 ⟨rfl,x1⟩;have hb1:=x1.get pn0;have y1:=x1.zBe.zBe;by_cases hd:1<=e.d/\e.d<=30
 .simp only[inB_one,hd,hb1,and_self,decide_true,Bool.not_true,splice,coreS,Value.cells,Value.oneCell',Nat.reduceAdd,Nat.reduceSub,Nat.reduceMul,Nat.reduceLeDiff,Int.reduceEq,Nat.reduceEqDiff,YtejmkibjpaoahaaGreatDoorA2Fs40];refine⟨by rw[zBS];omega,?_⟩;refine ak.mono (within71 0 (acc-1) _ 2 2 [e.f,e.t] _ (intsV_two jD) (by omega)) ?_;rintro v h2 ⟨rfl,x2⟩;have hb2:=(x2.zBe).get hb1;have y2:=y1.trans x2.zBe;by_cases hf:(0<=e.f/\e.f<=acc-1)/\0<=e.t/\e.t<=acc-1
  .have hok:decide (okE acc e)=(decide (1<=e.a)&&decide (e.a<=1000)):=by
    rw[<-Bool.decide_and];refine decide_eq_decide.2 ?_;unfold okE;omega
   by_cases ha1:e.a<1
   .have ha2:¬1<=e.a:=by omega
    simp only[inB_two,hf,hb2,ha1,ha2,hok,and_self,decide_true,decide_false,Bool.not_true,Bool.not_false,Bool.false_and,coreS,Value.cells,Value.oneCell',Nat.reduceAdd,Nat.reduceSub,Nat.reduceMul,Nat.reduceLeDiff,Int.reduceEq,Nat.reduceEqDiff,YtejmkibjpaoahaaGreatDoorA2Fs40];exact y2
   .have ha2:1<=e.a:=by omega
    have ha3:decide (1000<e.a)= !decide (e.a<=1000):=by by_cases h1:e.a<=1000<;>simp[h1]<;>omega
    simp only[inB_two,hf,hb2,ha1,ha2,hok,ha3,and_self,decide_true,decide_false,Bool.not_true,Bool.not_false,Bool.true_and,coreS,Value.cells,Value.oneCell',Nat.reduceAdd,Nat.reduceSub,Nat.reduceMul,Nat.reduceLeDiff,Int.reduceEq,Nat.reduceEqDiff,YtejmkibjpaoahaaGreatDoorA2Fs40];exact y2
  .have hok:¬okE acc e:=by unfold okE;omega
   simp only[inB_two,hf,hok,decide_false,Bool.not_false,coreS,Value.cells,Value.oneCell',Nat.reduceAdd,Nat.reduceSub,Nat.reduceMul,Nat.reduceLeDiff,Int.reduceEq,Nat.reduceEqDiff,YtejmkibjpaoahaaGreatDoorA2Fs40];exact y2
 .have hok:¬okE acc e:=by unfold okE;omega
  simp only[inB_one,hd,hok,decide_false,Bool.not_false,coreS,Value.cells,Value.oneCell',Nat.reduceAdd,Nat.reduceSub,Nat.reduceMul,Nat.reduceLeDiff,Int.reduceEq,Nat.reduceEqDiff,YtejmkibjpaoahaaGreatDoorA2Fs40];exact y1
theorem closure74 (acc cl:Int)(sl:Value)(e:En)(b:Nat)(h:Eng.Heap)(hb:h[b]? =some (.cells #[.int .i64 acc,.int .i64 cl,sl] 35))(ha: -9223372036854775808<acc/\acc<=9223372036854775807):
 ak Tryz.prog 100 #[.agg #[.int .i64 e.d,.int .i64 e.f,.int .i64 e.t,.int .i64 e.a],.pointer (some ⟨b,0,none⟩)] h (fun v h'=>v= .bool (!decide (okE acc e))/\Ext h h'):=by
 (refine Rm Tryz.func100 rfl bod100 ?_;simp only[Tryz.ntmps100,Tryz.results100,coreS,U1,splice,Value.cells,Value.oneCell',Nat.reduceAdd,Nat.reduceSub,Nat.reduceMul,Nat.reduceLeDiff,Int.reduceEq,Nat.reduceEqDiff,YtejmkibjpaoahaaGreatDoorA2Fs100])
 have hne:¬(b=h.size):=by have:=bA hb;omega
 simp only[hne,hb,if_false,coreS,Value.cells,Value.oneCell',Nat.reduceAdd,Nat.reduceSub,Nat.reduceMul,Nat.reduceLeDiff,Int.reduceEq,Nat.reduceEqDiff,YtejmkibjpaoahaaGreatDoorA2Fs100];refine ak.mono (stray65 acc e _ ha) ?_;rintro v h1 ⟨rfl,x1⟩;simp only[coreS,Value.cells,Value.oneCell',Nat.reduceAdd,Nat.reduceSub,Nat.reduceMul,Nat.reduceLeDiff,Int.reduceEq,Nat.reduceEqDiff,YtejmkibjpaoahaaGreatDoorA2Fs100];exact x1.zBe
theorem closure75 (x y:En)(h:Eng.Heap)(hd:InK .i64 (x.d-y.d)):
 ak Tryz.prog 101 #[.agg #[.int .i64 x.d,.int .i64 x.f,.int .i64 x.t,.int .i64 x.a],.agg #[.int .i64 y.d,.int .i64 y.f,.int .i64 y.t,.int .i64 y.a]] h (fun v h'=>v= .int .i64 (x.d-y.d)/\Ext h h'):=by
 (refine Rm Tryz.func101 rfl bod101 ?_;simp only[Tryz.ntmps101,Tryz.results101,coreS,U1,splice,Value.cells,Value.oneCell',Nat.reduceAdd,Nat.reduceSub,Nat.reduceMul,Nat.reduceLeDiff,Int.reduceEq,Nat.reduceEqDiff,YtejmkibjpaoahaaGreatDoorA2Fs101])
 exact⟨hd,((Ext.refl h).push _).push _⟩
theorem closure78 (e:En)(h:Eng.Heap):
 ak Tryz.prog 104 #[.agg #[.int .i64 e.d,.int .i64 e.f,.int .i64 e.t,.int .i64 e.a]] h (fun v h'=>v= .bool (decide (e.f=e.t))/\Ext h h'):=by
 (refine Rm Tryz.func104 rfl bod104 ?_;simp only[Tryz.ntmps104,Tryz.results104,coreS,U1,splice,Value.cells,Value.oneCell',Nat.reduceAdd,Nat.reduceSub,Nat.reduceMul,Nat.reduceLeDiff,Int.reduceEq,Nat.reduceEqDiff,YtejmkibjpaoahaaGreatDoorA2Fs104])
 exact(Ext.refl h).push _
def idxE (p:En->Bool)(es:List En):Int:=match es.findIdx? p with|some i=>i|none=> -1
theorem idxE_none {p:En->Bool}{es:List En}(H:∀e∈es,p e=false):idxE p es= -1:=by
 have:es.findIdx? p=none:=by rw[List.findIdx?_eq_none_iff];exact fun x hx=>by simp[H x hx]
 simp[idxE,this]
theorem idxE_some {p:En->Bool}{es:List En}{i:Nat}(hi:i<es.length)(H:∀e∈es.take i,p e=false)(hp:p es[i]=true):idxE p es=i:=by
 have:es.findIdx? p=some i:=by
  rw[List.findIdx?_eq_some_iff_getElem];refine⟨hi,hp,fun j hj=> ?_⟩;have hj':j<es.length:=by omega
  have:=H es[j] (by rw[List.mem_take_iff_getElem];exact⟨j,by omega,rfl⟩);simp[this]
 simp[idxE,this]
theorem indexFunc66 (a:Option Addr)(n c:Nat)(es:List En)(q:FuncId)(caps:Array Value)(p:En->Bool)(h:Eng.Heap)(hr:Row h a (ensV es))(hn:n=es.length)(hl:n<=1000000)
 (hq:∀e∈es,∀h',Ext h h'->ak Tryz.prog q (#[]++ #[.agg #[.int .i64 e.d,.int .i64 e.f,.int .i64 e.t,.int .i64 e.a]]++caps) h' (fun v h''=>v= .bool (p e)/\Ext h' h'')):
 ak Tryz.prog 41 #[.slice a n c,.func (.func q) #[] caps] h (fun v h'=>v= .int .i64 (idxE p es)/\Ext h h'):=by
 (refine Rm Tryz.func41 rfl bod41 ?_;simp only[Tryz.ntmps41,Tryz.results41,coreS,U1,splice,Value.cells,Value.oneCell',Nat.reduceAdd,Nat.reduceSub,Nat.reduceMul,Nat.reduceLeDiff,Int.reduceEq,Nat.reduceEqDiff,YtejmkibjpaoahaaGreatDoorA2Fs41])
 refine zAi [4,5,8,9,10,11,12,13,14,15,16,17,18] (fun g h'=>∃i:Nat,i<=n/\g 8= .int .i64 i/\(∀e∈es.take i,p e=false)/\Ext h h') (fun g _=>match g 8 with| .int _ m=>n-m.toNat|_=>0) ?_ ?_
 .exact⟨0,by omega,rfl,by simp,Ext.refl h⟩
 .rintro g h' ⟨i,hin,hg8,hno,hx⟩;by_cases hi:i<es.length
  .have hsm:a.isSome=true:=hr.isSome (by rw[ensV_length];omega);have hc1:gm h' (lg a (i*4)) 4=some [.int .i64 es[i].d,.int .i64 es[i].f,.int .i64 es[i].t,.int .i64 es[i].a]:=by
    have:=(hr.ext hx).cells (j:=i*4) (n:=4) (by rw[ensV_length];omega) (by omega);rw[ensV_get es i hi]at this;exact this
   simp only[hg8,hc1,coreS,Value.cells,Value.oneCell',Nat.reduceAdd,Nat.reduceSub,Nat.reduceMul,Nat.reduceLeDiff,Int.reduceEq,Nat.reduceEqDiff,YtejmkibjpaoahaaGreatDoorA2Fs41];refine⟨fun hlt=>⟨⟨by omega,by omega⟩,hsm,?_⟩,fun hge=>absurd hge (by omega)⟩;refine ak.mono (hq _ (List.getElem_mem hi) _ hx) ?_;rintro v h2 ⟨rfl,hx2⟩;have htk:es.take (i+1)=es.take i++[es[i]]:=by rw[List.take_add_one,List.getElem?_eq_getElem hi];rfl
   cases hp:p es[i]
   .simp only[coreS,Value.cells,Value.oneCell',Nat.reduceAdd,Nat.reduceSub,Nat.reduceMul,Nat.reduceLeDiff,Int.reduceEq,Nat.reduceEqDiff,YtejmkibjpaoahaaGreatDoorA2Fs41];refine⟨by rw[zBS];omega,Zr (by kernel_rfl) ⟨i+1,by omega,rfl,fun e he=> ?_,hx.trans hx2⟩ ?_⟩
    .rw[htk,List.mem_append,List.mem_singleton]at he;rcases he with he|rfl
     .exact hno e he
     .exact hp
    .show n-((i:Int)+1).toNat<n-(i:Int).toNat;omega
   .simp only[coreS,Value.cells,Value.oneCell',Nat.reduceAdd,Nat.reduceSub,Nat.reduceMul,Nat.reduceLeDiff,Int.reduceEq,Nat.reduceEqDiff,YtejmkibjpaoahaaGreatDoorA2Fs41];exact⟨by rw[idxE_some hi hno hp],hx.trans hx2⟩
  .simp only[hg8,coreS,Value.cells,Value.oneCell',Nat.reduceAdd,Nat.reduceSub,Nat.reduceMul,Nat.reduceLeDiff,Int.reduceEq,Nat.reduceEqDiff,YtejmkibjpaoahaaGreatDoorA2Fs41];refine⟨fun hlt=>absurd hlt (by omega),fun hge=> ?_⟩;rw[List.take_of_length_le (by omega)]at hno;exact⟨by rw[idxE_none hno],hx⟩
theorem containsFunc76 (a:Option Addr)(n c:Nat)(es:List En)(q:FuncId)(caps:Array Value)(p:En->Bool)(h:Eng.Heap)(hr:Row h a (ensV es))(hn:n=es.length)(hl:n<=1000000)
 (hq:∀e∈es,∀h',Ext h h'->ak Tryz.prog q (#[]++ #[.agg #[.int .i64 e.d,.int .i64 e.f,.int .i64 e.t,.int .i64 e.a]]++caps) h' (fun v h''=>v= .bool (p e)/\Ext h' h'')):
 ak Tryz.prog 102 #[.slice a n c,.func (.func q) #[] caps] h (fun v h'=>v= .bool (es.any p)/\Ext h h'):=by
 (refine Rm Tryz.func102 rfl bod102 ?_;simp only[Tryz.ntmps102,Tryz.results102,coreS,U1,splice,Value.cells,Value.oneCell',Nat.reduceAdd,Nat.reduceSub,Nat.reduceMul,Nat.reduceLeDiff,Int.reduceEq,Nat.reduceEqDiff])
 refine ak.mono (indexFunc66 a n c es q caps p h hr hn hl hq) ?_;rintro v h2 ⟨rfl,hx⟩;simp only[coreS,Value.cells,Value.oneCell',Nat.reduceAdd,Nat.reduceSub,Nat.reduceMul,Nat.reduceLeDiff,Int.reduceEq,Nat.reduceEqDiff];refine⟨?_,hx⟩;congr 1;unfold idxE;cases hf:es.findIdx? p with
 |none=>
  rw[List.findIdx?_eq_none_iff]at hf;have:es.any p=false:=by rw[List.any_eq_false];intro x hx;simp[hf x hx]
  simp[this]
 |some i=>
  rw[List.findIdx?_eq_some_iff_getElem]at hf;obtain⟨hi,hp,_⟩:=hf;have:es.any p=true:=by rw[List.any_eq_true];exact⟨es[i],List.getElem_mem hi,hp⟩
  simp[this]
theorem rowE {a:Option Addr}{es:List En}(hr:Row h a (ensV es)){i:Nat}(hi:i<es.length):gm h (lg a (i*4)) 4=some [.int .i64 es[i].d,.int .i64 es[i].f,.int .i64 es[i].t,.int .i64 es[i].a]:=by
 have:=hr.cells (j:=i*4) (n:=4) (by rw[ensV_length];omega) (by omega);rw[ensV_get es i hi]at this;exact this
def sortedE (es:List En):Prop:=∀i (hi:i+1<es.length),(es[i]'(by omega)).d<=es[i+1].d
theorem isSorted77 (a:Option Addr)(n c:Nat)(es:List En)(h:Eng.Heap)(hr:Row h a (ensV es))(hn:n=es.length)(hl:n<=1000000)(hd:∀e∈es,0<=e.d/\e.d<=1000000):
 ak Tryz.prog 103 #[.slice a n c,.func (.func 101) #[] #[]] h (fun v h'=>∃b:Bool,v= .bool b/\(b=true<->sortedE es)/\Ext h h'):=by
 (refine Rm Tryz.func103 rfl bod103 ?_;simp only[Tryz.ntmps103,Tryz.results103,coreS,U1,splice,Value.cells,Value.oneCell',Nat.reduceAdd,Nat.reduceSub,Nat.reduceMul,Nat.reduceLeDiff,Int.reduceEq,Nat.reduceEqDiff,YtejmkibjpaoahaaGreatDoorA2Fs103])
 refine⟨by rw[zBS];omega,?_⟩;refine zAi [4,5,9,10,11,12,13,14,15,16,17,18,19,20,21,22,23,24] (fun g h'=>∃i:Int,-1<=i/\i<n/\g 5= .int .i64 i/\(∀j (hj:j+1<es.length),i<j+1->(es[j]'(by omega)).d<=es[j+1].d)/\Ext h h') (fun g _=>match g 5 with| .int _ m=>(m+1).toNat|_=>0) ⟨(n:Int)-1,by omega,by omega,rfl,fun j hj h1=>by omega,Ext.refl h⟩ ?_;rintro g h' ⟨i,hi1,hin,hg5,hs,hx⟩;by_cases hi:0<i
 .obtain⟨k,rfl⟩:∃k:Nat,i=(k:Int)+1:=⟨(i-1).toNat,by omega⟩;have hk:k+1<es.length:=by omega
  have hsm:a.isSome=true:=hr.isSome (by rw[ensV_length];omega);have hc1:=rowE (hr.ext hx) hk;have hc2:=rowE (hr.ext hx) (show k<es.length by omega);have t1:((k:Int)+1).toNat=k+1:=by omega
  have t2:((k:Int)+1-1)=k:=by omega
  have d1:=hd _ (List.getElem_mem hk);have d2:=hd _ (List.getElem_mem (show k<es.length by omega));simp only[hg5,hi,decide_true,coreS,Value.cells,Value.oneCell',Nat.reduceAdd,Nat.reduceSub,Nat.reduceMul,Nat.reduceLeDiff,Int.reduceEq,Nat.reduceEqDiff,YtejmkibjpaoahaaGreatDoorA2Fs103];refine zB9 (by kernel_rfl) zBc [(0,0),(1,0),(2,0),(3,0),(4,0),(5,0),(6,0),(7,0),(8,0),(9,0),(10,0),(11,0)] (by kernel_rfl) rfl (by kernel_rfl) ?_;simp only[hg5,t1,t2,hc1,hc2,Int.toNat_natCast,coreS,Value.cells,Value.oneCell',Nat.reduceAdd,Nat.reduceSub,Nat.reduceMul,Nat.reduceLeDiff,Int.reduceEq,Nat.reduceEqDiff,drawS,YtejmkibjpaoahaaGreatDoorA2Fs103];refine⟨by omega,hsm,by rw[zBS];omega,by omega,hsm,?_⟩;refine zCC _ (fun h2 x2=>ak.mono (closure75 es[k+1] es[k] h2 (by rw[zBS];omega)) fun v h3 q=>⟨q.1,q.2⟩) ?_;by_cases hlt:es[k+1].d-es[k].d<0
  .simp only[hlt,decide_true,coreS,Value.cells,Value.oneCell',Nat.reduceAdd,Nat.reduceSub,Nat.reduceMul,Nat.reduceLeDiff,Int.reduceEq,Nat.reduceEqDiff,drawS,YtejmkibjpaoahaaGreatDoorA2Fs103];refine zBw fun h2 x2=> ?_
   simp only[coreS,Value.cells,Value.oneCell',Nat.reduceAdd,Nat.reduceSub,Nat.reduceMul,Nat.reduceLeDiff,Int.reduceEq,Nat.reduceEqDiff,drawS,YtejmkibjpaoahaaGreatDoorA2Fs103];exact⟨false,rfl,⟨fun hf=>(by cases hf),fun hs=>by have:=hs k hk;omega⟩,hx.trans x2⟩
  .simp only[hlt,decide_false,coreS,Value.cells,Value.oneCell',Nat.reduceAdd,Nat.reduceSub,Nat.reduceMul,Nat.reduceLeDiff,Int.reduceEq,Nat.reduceEqDiff,drawS,YtejmkibjpaoahaaGreatDoorA2Fs103];refine zBw fun h2 x2=> ?_
   simp only[coreS,Value.cells,Value.oneCell',Nat.reduceAdd,Nat.reduceSub,Nat.reduceMul,Nat.reduceLeDiff,Int.reduceEq,Nat.reduceEqDiff,drawS,YtejmkibjpaoahaaGreatDoorA2Fs103];refine⟨by rw[zBS];omega,Zr (by kernel_rfl) ⟨(k:Int)+1-1,by omega,by omega,rfl,fun j hj h1=> ?_,hx.trans x2⟩ ?_⟩
   .by_cases hjk:j=k
    .subst hjk;omega
    .exact hs j hj (by omega)
   .show((k:Int)+1-1+1).toNat<((k:Int)+1+1).toNat;omega
 .simp only[hg5,hi,decide_false,coreS,Value.cells,Value.oneCell',Nat.reduceAdd,Nat.reduceSub,Nat.reduceMul,Nat.reduceLeDiff,Int.reduceEq,Nat.reduceEqDiff,YtejmkibjpaoahaaGreatDoorA2Fs103];exact⟨true,rfl,⟨fun _ j hj=>hs j hj (by omega),fun _=>rfl⟩,hx⟩
end
end Go.Proofs.YtejmkibjpaoahaaGreatDoor
end
section
namespace Go.Proofs.YtejmkibjpaoahaaGreatDoor
open Go Go.Proofs Go.Eng Tab
set_option maxRecDepth 100000
set_option linter.unusedSimpArgs false
set_option linter.unusedVariables false
set_option maxHeartbeats 1000000
set_option linter.defProp false
def YtejmkibjpaoahaaGreatDoorA3Fs39:=(And.intro (And.intro (And.intro @agg3 (And.intro @agg33 @by3)) (And.intro @fo35_0 (And.intro @fo35_1 @fo35_2))) (And.intro (And.intro @inf3 (And.intro @inf33 @sz3)) (And.intro (And.intro @sz33 @zero3) (And.intro @Tryz.underlying29 @Tryz.underlying33))))
noncomputable instance (es:List En):Decidable (sortedE es):=Classical.propDecidable _
noncomputable def chk (acc cl:Int)(es:List En):Int:=
 if¬(2<=acc/\acc<=8)\/20<es.length then 6
 else if¬(0<=cl/\cl<=30)\/¬(∀e∈es,okE acc e)then 3
 else if¬sortedE es\/∃e∈es,e.f=e.t then 16
 else 0
theorem check25 (acc cl:Int)(a:Option Addr)(n c:Nat)(es:List En)(h:Eng.Heap)(hr:Row h a (ensV es))(hn:n=es.length)(hl:n<=1000000):
 ak Tryz.prog 39 #[.agg #[.int .i64 acc,.int .i64 cl,.slice a n c]] h (fun v h'=>v= .int .i64 (chk acc cl es)/\Ext h h'):=by
 (refine Rm Tryz.func39 rfl bod39 ?_;simp only[Tryz.ntmps39,Tryz.results39,coreS,U1,splice,Value.cells,Value.oneCell',Nat.reduceAdd,Nat.reduceSub,Nat.reduceMul,Nat.reduceLeDiff,Int.reduceEq,Nat.reduceEqDiff,YtejmkibjpaoahaaGreatDoorA3Fs39])
 refine ak.mono (within71 2 8 _ 1 1 [acc] _ (intsV_one pn1) (by omega)) ?_;rintro v h1 ⟨rfl,x1⟩;have hb1:=x1.get pn0;have y1:=x1.zBe.zBe;by_cases ha:2<=acc/\acc<=8
 .by_cases hm:20<(n:Int)
  .have hc:chk acc cl es=6:=by unfold chk;rw[if_pos (.inr (by omega))]
   simp only[inB_one,ha,hb1,hm,hc,and_self,decide_true,Bool.not_true,coreS,Value.cells,Value.oneCell',Nat.reduceAdd,Nat.reduceSub,Nat.reduceMul,Nat.reduceLeDiff,Int.reduceEq,Nat.reduceEqDiff,YtejmkibjpaoahaaGreatDoorA3Fs39];exact y1
  .simp only[inB_one,ha,hb1,hm,and_self,decide_true,decide_false,Bool.not_true,coreS,Value.cells,Value.oneCell',Nat.reduceAdd,Nat.reduceSub,Nat.reduceMul,Nat.reduceLeDiff,Int.reduceEq,Nat.reduceEqDiff,YtejmkibjpaoahaaGreatDoorA3Fs39];refine ak.mono (within71 0 30 _ 1 1 [cl] _ (intsV_one jD) (by omega)) ?_;rintro v h2 ⟨rfl,x2⟩;have hb2:=x2.zBe.get hb1;have y2:=y1.trans x2.zBe;by_cases hcl:0<=cl/\cl<=30
   .simp only[inB_one,hcl,hb2,and_self,decide_true,Bool.not_true,coreS,Value.cells,Value.oneCell',Nat.reduceAdd,Nat.reduceSub,Nat.reduceMul,Nat.reduceLeDiff,Int.reduceEq,Nat.reduceEqDiff,YtejmkibjpaoahaaGreatDoorA3Fs39];refine ak.mono (containsFunc76 a n c es 100 _ (fun e=> !decide (okE acc e)) h2 (hr.ext y2) hn hl fun e _ h' x'=>closure74 acc cl _ e _ h' (x'.get hb2) (by omega)) ?_;rintro v h3 ⟨rfl,x3⟩;have hb3:=x3.get hb2;have y3:=y2.trans x3;by_cases hall:∀e∈es,okE acc e
    .have hany:(es.any fun e=> !decide (okE acc e))=false:=by
      rw[List.any_eq_false];intro e he;simp[hall e he]
     simp only[hany,hb3,coreS,Value.cells,Value.oneCell',Nat.reduceAdd,Nat.reduceSub,Nat.reduceMul,Nat.reduceLeDiff,Int.reduceEq,Nat.reduceEqDiff,YtejmkibjpaoahaaGreatDoorA3Fs39];refine ak.mono (isSorted77 a n c es h3 (hr.ext y3) hn hl fun e he=>by have:=(hall e he).1;omega) ?_;rintro v h4 ⟨b,rfl,hb,x4⟩;have hb4:=x4.get hb3;have y4:=y3.trans x4;cases b with
     |false=>
      have hs:¬sortedE es:=fun hs=>by have:=hb.2 hs;cases this
      have hc:chk acc cl es=16:=by
       unfold chk;rw[if_neg (by omega),if_neg (by rintro(h|h);exact h hcl;exact h hall),if_pos (.inl hs)]
      simp only[hb4,hc,coreS,Value.cells,Value.oneCell',Nat.reduceAdd,Nat.reduceSub,Nat.reduceMul,Nat.reduceLeDiff,Int.reduceEq,Nat.reduceEqDiff,YtejmkibjpaoahaaGreatDoorA3Fs39];exact y4
     |true=>
      have hs:sortedE es:=hb.1 rfl;simp only[hb4,coreS,Value.cells,Value.oneCell',Nat.reduceAdd,Nat.reduceSub,Nat.reduceMul,Nat.reduceLeDiff,Int.reduceEq,Nat.reduceEqDiff,YtejmkibjpaoahaaGreatDoorA3Fs39];refine ak.mono (containsFunc76 a n c es 104 #[] (fun e=>decide (e.f=e.t)) h4 (hr.ext y4) hn hl fun e _ h' x'=>closure78 e h') ?_;rintro v h5 ⟨rfl,x5⟩;have y5:=y4.trans x5;by_cases hex:∃e∈es,e.f=e.t
      .have hany2:(es.any fun e=>decide (e.f=e.t))=true:=by
        obtain⟨e,he,h1⟩:=hex;rw[List.any_eq_true];exact⟨e,he,by simp[h1]⟩
       have hc:chk acc cl es=16:=by
        unfold chk;rw[if_neg (by omega),if_neg (by rintro(h|h);exact h hcl;exact h hall),if_pos (.inr hex)]
       simp only[hany2,hc,coreS,Value.cells,Value.oneCell',Nat.reduceAdd,Nat.reduceSub,Nat.reduceMul,Nat.reduceLeDiff,Int.reduceEq,Nat.reduceEqDiff,YtejmkibjpaoahaaGreatDoorA3Fs39];exact y5
      .have hany2:(es.any fun e=>decide (e.f=e.t))=false:=by
        rw[List.any_eq_false];intro e he;simp;exact fun h1=>hex ⟨e,he,h1⟩
       have hc:chk acc cl es=0:=by
        unfold chk;rw[if_neg (by omega),if_neg (by rintro(h|h);exact h hcl;exact h hall),if_neg (by rintro(h|h);exact h hs;exact hex h)]
       simp only[hany2,hc,coreS,Value.cells,Value.oneCell',Nat.reduceAdd,Nat.reduceSub,Nat.reduceMul,Nat.reduceLeDiff,Int.reduceEq,Nat.reduceEqDiff,YtejmkibjpaoahaaGreatDoorA3Fs39];exact y5
    .have hany:(es.any fun e=> !decide (okE acc e))=true:=by
      rw[List.any_eq_true];simp only[Classical.not_forall]at hall;obtain⟨e,he,h1⟩:=hall;exact⟨e,he,by simp[h1]⟩
     have hc:chk acc cl es=3:=by unfold chk;rw[if_neg (by omega),if_pos (.inr hall)]
     simp only[hany,hc,coreS,Value.cells,Value.oneCell',Nat.reduceAdd,Nat.reduceSub,Nat.reduceMul,Nat.reduceLeDiff,Int.reduceEq,Nat.reduceEqDiff,YtejmkibjpaoahaaGreatDoorA3Fs39];exact y3
   .have hc:chk acc cl es=3:=by unfold chk;rw[if_neg (by omega),if_pos (.inl hcl)]
    simp only[inB_one,hcl,hc,decide_false,Bool.not_false,coreS,Value.cells,Value.oneCell',Nat.reduceAdd,Nat.reduceSub,Nat.reduceMul,Nat.reduceLeDiff,Int.reduceEq,Nat.reduceEqDiff,YtejmkibjpaoahaaGreatDoorA3Fs39];exact y2
 .have hc:chk acc cl es=6:=by unfold chk;rw[if_pos (.inl ha)]
  simp only[inB_one,ha,hc,decide_false,Bool.not_false,coreS,Value.cells,Value.oneCell',Nat.reduceAdd,Nat.reduceSub,Nat.reduceMul,Nat.reduceLeDiff,Int.reduceEq,Nat.reduceEqDiff,YtejmkibjpaoahaaGreatDoorA3Fs39];exact y1
end Go.Proofs.YtejmkibjpaoahaaGreatDoor
end
section
namespace Go.Proofs.YtejmkibjpaoahaaGreatDoor
open Go Go.Proofs Go.Eng Tab
set_option maxRecDepth 100000
set_option linter.unusedSimpArgs false
set_option linter.unusedVariables false
set_option maxHeartbeats 1000000
set_option linter.defProp false
def YtejmkibjpaoahaaGreatDoorA5Fs46:=(And.intro (And.intro @agg35 (And.intro @fps181_0 @inf35)) (And.intro @okf181 (And.intro @sz35 @zero181)))
noncomputable def opn (acc cl:Int)(es:List En)(days:List Int):Int:=if chk acc cl es≠0 then chk acc cl es else if inB 0 30 days then 0 else 3
theorem open72 (acc cl:Int)(a:Option Addr)(n c:Nat)(es:List En)(b:Option Addr)(m k:Nat)(days:List Int)(h:Eng.Heap)(hr:Row h a (ensV es))(hn:n=es.length)(hl:n<=1000000)(hd:eu h b m days)(hm:m<=1000000):
 ak Tryz.prog 46 #[.agg #[.int .i64 acc,.int .i64 cl,.slice a n c],.slice b m k] h (fun v h'=>Ext h h'/\
  ((opn acc cl es days=0/\∃g,v= .tuple #[.pointer (some ⟨g,0,none⟩),.int .i64 0]/\h'[g]? =some (.cells #[.int .i64 acc,.int .i64 cl,.slice a n c] 181)/\h.size<=g)\/
   (opn acc cl es days≠0/\v= .tuple #[.pointer none,.int .i64 (opn acc cl es days)]))):=by
 (refine Rm Tryz.func46 rfl bod46 ?_;simp only[Tryz.ntmps46,Tryz.results46,coreS,U1,splice,Value.cells,Value.oneCell',Nat.reduceAdd,Nat.reduceSub,Nat.reduceMul,Nat.reduceLeDiff,Int.reduceEq,Nat.reduceEqDiff,YtejmkibjpaoahaaGreatDoorA5Fs46])
 have x0:Ext h (h.push (.cells #[.int .i64 acc,.int .i64 cl,.slice a n c] 35)):=(Ext.refl h).push _;refine ak.mono (check25 acc cl a n c es _ (hr.push _) hn hl) ?_;rintro v h1 ⟨rfl,x1⟩;have hb1:=x1.get (jD (h:=h));have y1:=x0.trans x1;by_cases hc:chk acc cl es=0
 .have e1:opn acc cl es days=if inB 0 30 days then 0 else 3:=by rw[opn,if_neg (by simpa using hc)]
  simp only[hc,coreS,Value.cells,Value.oneCell',Nat.reduceAdd,Nat.reduceSub,Nat.reduceMul,Nat.reduceLeDiff,Int.reduceEq,Nat.reduceEqDiff,YtejmkibjpaoahaaGreatDoorA5Fs46];refine ak.mono (within71 0 30 b m k days h1 (hd.ext y1) hm) ?_;rintro v h2 ⟨rfl,x2⟩;have hb2:=x2.get hb1;have y2:=y1.trans x2;cases hin:inB 0 30 days with
  |true=>
   rw[hin]at e1;simp only[hb2,splice,coreS,Value.cells,Value.oneCell',Nat.reduceAdd,Nat.reduceSub,Nat.reduceMul,Nat.reduceLeDiff,Int.reduceEq,Nat.reduceEqDiff,YtejmkibjpaoahaaGreatDoorA5Fs46];exact⟨y2.push _,.inl ⟨by simpa using e1,h2.size,rfl,by simp,y2.size⟩⟩
  |false=>
   rw[hin]at e1;have e2:opn acc cl es days=3:=e1;simp only[hb2,coreS,Value.cells,Value.oneCell',Nat.reduceAdd,Nat.reduceSub,Nat.reduceMul,Nat.reduceLeDiff,Int.reduceEq,Nat.reduceEqDiff,YtejmkibjpaoahaaGreatDoorA5Fs46];exact⟨y2,.inr ⟨by rw[e2];omega,by rw[e2]⟩⟩
 .have e1:opn acc cl es days=chk acc cl es:=by rw[opn,if_pos hc]
  simp only[hc,decide_false,Bool.not_false,coreS,Value.cells,Value.oneCell',Nat.reduceAdd,Nat.reduceSub,Nat.reduceMul,Nat.reduceLeDiff,Int.reduceEq,Nat.reduceEqDiff,YtejmkibjpaoahaaGreatDoorA5Fs46];exact⟨y1,.inr ⟨by rw[e1];exact hc,by rw[e1]⟩⟩
end Go.Proofs.YtejmkibjpaoahaaGreatDoor
end
section
namespace Go.Proofs.YtejmkibjpaoahaaGreatDoor
open Go Go.Proofs Go.Eng Tab
theorem chk_ok {acc cl:Int}{es:List En}(H:chk acc cl es=0):(2<=acc/\acc<=8)/\es.length<=20/\(0<=cl/\cl<=30)/\(∀e∈es,okE acc e)/\sortedE es/\∀e∈es,e.f≠e.t:=by
 unfold chk at H;split at H
 .omega
 split at H
 .omega
 split at H
 .omega
 rename_i h1 h2 h3;rw[not_or]at h1 h2 h3;refine⟨Classical.not_not.1 h1.1,by omega,Classical.not_not.1 h2.1,Classical.not_not.1 h2.2,Classical.not_not.1 h3.1,fun e he hh=>h3.2 ⟨e,he,hh⟩⟩
theorem opn_ok {acc cl:Int}{es:List En}{days:List Int}(H:opn acc cl es days=0):chk acc cl es=0/\inB 0 30 days=true:=by
 unfold opn at H;split at H
 .rename_i h;exact absurd H h
 split at H
 .rename_i h1 h2;exact⟨Classical.not_not.1 h1,h2⟩
 .omega
theorem eltP_zero {a:Option Addr}:lg a 0=a:=by cases a<;>simp[lg,Cm]
end Go.Proofs.YtejmkibjpaoahaaGreatDoor
end
section
namespace Go.Proofs.YtejmkibjpaoahaaGreatDoor
open Go Go.Proofs Go.Eng Go.Run Tab
set_option maxRecDepth 100000
set_option linter.unusedSimpArgs false
set_option linter.unusedVariables false
set_option linter.defProp false
theorem intsV_take {h:Eng.Heap}{a:Option Addr}{n:Nat}{xs:List Int}(H:eu h a n xs)(i:Nat)(hi:i<=n):eu h a i (xs.take i):=
 ⟨by rw[List.length_take];have:=H.len;omega,by have:=H.row.take i;rwa[show(ints xs).take i=ints (xs.take i) by simp[ints,List.map_take]]at this⟩
end Go.Proofs.YtejmkibjpaoahaaGreatDoor
end
section
namespace Go.Proofs.YtejmkibjpaoahaaGreatDoor.RL
set_option linter.unusedSimpArgs false
set_option linter.unusedVariables false
def rotL (l:List Int)(k:Nat):List Int:=l.drop k++l.take k
theorem rotL_length (l:List Int)(k:Nat)(h:k<=l.length):(rotL l k).length=l.length:=by simp[rotL];omega
theorem rotL_get (l:List Int)(k i:Nat)(h:k<=l.length)(hi:i<l.length):(rotL l k).getD i 0=l.getD ((i+k)% l.length) 0:=by
 unfold rotL;simp only[List.getD_eq_getElem?_getD];by_cases h1:i<l.length-k
 .rw[List.getElem?_append_left (by simp;omega),List.getElem?_drop,Nat.mod_eq_of_lt (by omega),Nat.add_comm]
 .rw[List.getElem?_append_right (by simp;omega),List.length_drop,List.getElem?_take_of_lt (by omega)];have:(i+k)% l.length=i-(l.length-k):=by
   rw[show i+k=(i-(l.length-k))+l.length by omega,Nat.add_mod_right,Nat.mod_eq_of_lt (by omega)]
  rw[this]
theorem ext_getD {a b:List Int}(hl:a.length=b.length)(h:∀i,i<a.length->a.getD i 0=b.getD i 0):a=b:=by
 apply List.ext_getElem hl;intro i h1 h2;have:=h i h1;simpa[List.getD,List.getElem?_eq_getElem h1,List.getElem?_eq_getElem h2]using this
end Go.Proofs.YtejmkibjpaoahaaGreatDoor.RL
end
section
set_option linter.unusedVariables false
set_option linter.unusedSimpArgs false
namespace Go.Eng
open Go
attribute [local semireducible] aI iP gP lm WP
section fork
variable {P:Program}{l:Option Nat}{R:Heap->Heap->Prop}{G:Nat->Bool}
variable {all:List Oper}{rest rs:List (Nat×Nat)}{k:aj}{e:Env}{d:List Deferred}{h:Heap}{dst:Option Tmp}{op:Op}{ty:TypeId}{pos:String}{after:Array Edge}{i x y:Nat}
end fork
section vals
variable {P:Program}{h:Heap}{er:Env}{ty:TypeId}{h0:Nat}
theorem Un {t tn el:TypeId}{z:Value}{s:Nat}(hu:P.underlying t=some (.slice el))(hun:P.underlying tn=some (.int .i64))(hi:(P.info? el).isSome=true)(hsz:szT P el=s)(hz:dJ P el=some z)(hzs:z.cells.size=s)(hs:0<s)
 {x y:Operand} {a:Option Addr} {len cap k:Nat} {olds:List Value} {K:Value->Heap->Prop} (hx:ev er x= .slice a len cap) (hy:ev er y= .int .i64 (k:Nat)) (I:Row h a olds) (hol:olds.length=len*s) (hk:0<k) (hg:cap<len+k) (hb:len+k<=1000000) (hby:(len+k)*iA P el<=1000000) (h0h:h0<=h.size)
 (H:∀cap' h' zs,zs.length=k*s->iV h0 h' el s (some ⟨h.size,0,none⟩) (len+k) cap' (olds++zs)->Ext h h'->K (.slice (some ⟨h.size,0,none⟩) (len+k) cap') h'):aI P (.call ⟨.builtin .append,#[x,y],#[t,tn]⟩) ty er h K:=by
 unfold aI;refine And.intro rfl fun w hw=> ?_
 subst hw;obtain⟨i,hi⟩:=Option.isSome_iff_exists.1 hi;have hsz:i.size=s:=by simpa[szT,hi]using hsz
 have hz:i.zero=some z:=by simpa[dJ,hi]using hz
 have hby:(len+k)*i.bytes<=1000000:=by simpa[iA,hi]using hby
 have hkb:k*i.bytes<=(len+k)*i.bytes:=Nat.mul_le_mul_right _ (by omega);have hf:(Builtin.firstCells i.size len (.slice a len cap)).run P w.drew= .ok olds.toArray w.drew:=by
  have:=qJ (P:=P) (w:=w.drew) (c:=cap) (k:=len) (s:=s) (b:=a) (m:=len) (vs:=olds) I hol (Nat.le_refl _);rw[List.take_of_length_le (by omega)]at this;rw[hsz];exact this
 have g1:=Lib.run_append_grow_zeros (P:=P) w t tn ty el i z .i64 .i64 hu hun hi hz a len cap olds hf k hk (by omega) hg (by omega) (by omega) (growslice_fits (bytes:=i.bytes) hg (by omega));have hge:=grownCap_ge w (len+k) cap el;have hargs: #[x,y].map (ev er)= #[.slice a len cap,.int .i64 (k:Nat)]:=by simp[hx,hy]
 have key:∀v w',(Builtin.append_ #[t,tn] ty #[.slice a len cap,.int .i64 (k:Nat)]).run P w= .ok v w'->Rest w w'->K v w'.heap->
  dQ P w K ((execOp (ev er) {dst:=none,op:= .call ⟨.builtin .append,#[x,y],#[t,tn]⟩,type:=ty,pos:= "",after:= #[],guard:=none}).run P w):=by
  intro v w' h1 h2 h3;have:(execOp (ev er) {dst:=none,op:= .call ⟨.builtin .append,#[x,y],#[t,tn]⟩,type:=ty,pos:= "",after:= #[],guard:=none}).run P w= .ok (.value v) w':=by
   simp only[execOp,resolve,invoke,builtin,Sem.run_bind,Sem.run_pure,Result.andThen_ok,hargs,h1]
  rw[this];exact⟨h3,h2⟩
 have hzl:(Builtin.zeroCells z.cells k).size=k*s:=by rw[iF,hzs]
 refine key _ _ g1 ⟨rfl,rfl,rfl⟩ (H (grownCap w (len+k) cap el) _ (Builtin.zeroCells z.cells k).toList (by simpa using hzl) ⟨by rw[List.length_append,hol,Array.length_toList,hzl,Nat.add_mul],.inr ⟨w.heap.size,_,rfl,h0h,jD,?_,hge,?_⟩⟩ ((Ext.refl _).push _))
 .have e1:(len+k)*s+(grownCap w (len+k) cap el-(len+k))*s=grownCap w (len+k) cap el*s:=by rw[<-Nat.add_mul];congr 1;omega
  simp only[Array.size_append,List.size_toArray,iF,hzs,hol,Nat.add_mul]at e1 ⊢;omega
 .simp only[Array.toList_append,List.toList_toArray];rw[List.take_append_of_le_length (by simp[hol,hzl,Nat.add_mul]),List.take_of_length_le (by simp[hol,hzl,Nat.add_mul])]
end vals
end Go.Eng
end
section
set_option linter.unusedVariables false
set_option linter.unusedSimpArgs false
namespace Go.Eng
open Go
attribute [local semireducible] aI iP gP lm WP
inductive PT where
 |fin
 |quiet (i:Nat) (r:PT)
 |pure (i:Nat) (r:PT)
 |one (i:Nat) (r:PT)
 |keep (i:Nat) (r:PT)
 |fork (x y:Nat) (a b:PT)
 |yo (x y:Nat) (u v:Bool) (a b:PT)
 |lu (x y z:Nat) (u v w:Bool) (a b c:PT)
def PT.size:PT->Nat
 | .fin=>0
 | .quiet _ r| .pure _ r| .one _ r| .keep _ r=>r.size+1
 | .fork _ _ a _=>a.size+1
 | .yo _ _ _ _ a _=>a.size+1
 | .lu _ _ _ _ _ _ a _ _=>a.size+1
def PT.G:PT->Nat->Bool
 | .fin,_=>true
 | .quiet _ r,j| .pure _ r,j| .keep _ r,j=>r.G j
 | .one i r,j=> !(i==j)&&r.G j
 | .fork _ _ a b,j=>a.G j&&b.G j
 | .yo x y u v a b,j=>(u|| !(x==j))&&((v|| !(y==j))&&(a.G j&&b.G j))
 | .lu x y z u v w a b c,j=>(u|| !(x==j))&&((v|| !(y==j))&&((w|| !(z==j))&&(a.G j&&(b.G j&&c.G j))))
section tree
variable {P:Program}{l:Option Nat}{R:Heap->Heap->Prop}{G:Nat->Bool}
theorem VG {all:List Oper}{i:Nat}{o:Oper}{e:Env}{d:List Deferred}{w1:World}{Kx:Env->Heap->Prop}{Kf:Act->World->Prop}(hi:all[i]? =some o)
 (H:ax o.guard all e (fun e=>opW P o.op o.type e w1.heap (fun v h''=>(G i=true->R w1.heap h'')/\Kx (aU e o.dst v) h'')) (fun e=>(G i=true->R w1.heap w1.heap)/\Kx (aU e o.dst undef) w1.heap)) (fin:∀e' w',Rest w1 w'->Kx e' w'.heap->Kf ⟨e'.toArray,d⟩ w'):
 opD P all.toArray i (fun a' w'=>(G i=true->R w1.heap w'.heap)/\Rest w1 w'/\Kf a' w') ⟨e.toArray,d⟩ w1:=by
 have hi':all.toArray[i]? =some o:=by simpa using hi
 unfold opD;simp only[hi'];rcases dB H o rfl with⟨hw,hA⟩|⟨hw,hB⟩
 .simp only[hw,if_true];have h1:=aM hA;unfold aI at h1;refine⟨h1.1,?_⟩;have h2:=h1.2 w1 rfl;rw[dY,bW];have fin':∀v w',Rest w1 w'->((G i=true->R w1.heap w'.heap)/\Kx (aU e o.dst v) w'.heap)->(G i=true->R w1.heap w'.heap)/\Rest w1 w'/\Kf ((Act.mk e.toArray d).put o.dst v) w':=by
   intro v w' hr' hk;refine⟨hk.1,hr',?_⟩;rw[ay];exact fin _ _ hr' hk.2
  unfold dQ at h2;unfold fH;split at h2
  .exact⟨fin' _ _ h2.2 h2.1,h2.2⟩
  .exact⟨fin' _ _ h2.2 h2.1,h2.2⟩
  .exact⟨h2.1,Calls.mono h2.2 fun x w'' ⟨v,hx,hv,hr''⟩=>⟨v,hx,fin' v w'' (h2.1.trans hr'') hv,hr''⟩⟩
  .exact⟨h2.1,RoundIn.mono h2.2 fun x w'' ⟨v,hx,hv,hr''⟩=>⟨v,hx,fin' v w'' (h2.1.trans hr'') hv,hr''⟩⟩
  .exact h2.elim
 .simp only[hw];refine⟨hB.1,Rest.refl _,?_⟩;rw[ay];exact fin _ _ (Rest.refl _) hB.2
def stO (P:Program)(all:List Oper)(o:Option Oper)(e:Env)(h:Heap)(K:Env->Heap->Prop):Prop:=
 match o with
 |some o=>ax o.guard all e (fun e=>opW P o.op o.type e h (fun v h'=>K (aU e o.dst v) h')) (fun e=>K (aU e o.dst undef) h)
 |none=>False
def ah (P:Program)(R:Heap->Heap->Prop)(all:List Oper):PT->aj->Env->List Deferred->Heap->Prop
 | .fin,k,e,d,h=>∀h',R h h'->k .normal e d h'
 | .quiet i rest,k,e,d,h=>match all[i]? with
   |some o=>ax o.guard all e (fun e=>dK P R o.op o.type e h (fun v h'=>ah P R all rest k (aU e o.dst v) d h')) (fun e=>ah P R all rest k (aU e o.dst undef) d h)
   |none=>False
 | .pure i rest,k,e,d,h=>match all[i]? with
   |some o=>ax o.guard all e (fun e=>fK P o.op e h (fun v h'=>ah P R all rest k (aU e o.dst v) d h')) (fun e=>ah P R all rest k (aU e o.dst undef) d h)
   |none=>False
 | .one i rest,k,e,d,h=>∀h',R h h'->stO P all all[i]? e h' (fun e h''=>ah P R all rest k e d h'')
 | .keep i rest,k,e,d,h=>∀h',R h h'->stO P all all[i]? e h' (fun e h''=>R h' h''/\ah P R all rest k e d h'')
 | .fork x y a b,k,e,d,h=>∀h',R h h'->stO P all all[x]? e h' (fun e h''=>R h' h''/\ah P R all a k e d h'')/\stO P all all[y]? e h' (fun e h''=>R h' h''/\ah P R all b k e d h'')
 | .yo x y u v a b,k,e,d,h=>∀h',R h h'->stO P all all[x]? e h' (fun e h''=>(u=true->R h' h'')/\ah P R all a k e d h'')/\stO P all all[y]? e h' (fun e h''=>(v=true->R h' h'')/\ah P R all b k e d h'')
 | .lu x y z u v t a b c,k,e,d,h=>∀h',R h h'->stO P all all[x]? e h' (fun e h''=>(u=true->R h' h'')/\ah P R all a k e d h'')/\stO P all all[y]? e h' (fun e h''=>(v=true->R h' h'')/\ah P R all b k e d h'')/\stO P all all[z]? e h' (fun e h''=>(t=true->R h' h'')/\ah P R all c k e d h'')
def okT (G:Nat->Bool)(all:List Oper):PT->Array Bool->Bool
 | .fin,listed=>(Region.ready .any all.toArray listed).isEmpty
 | .quiet i rest,listed=>(Region.ready .any all.toArray listed).contains i&&vQ all listed i (blk all listed i all.length 0 [])&&
  ((List.range all.length).all fun j=>j==i||listed.getD j true||(blk all listed i all.length 0 []).contains j||(G j&&(match all[i]?,all[j]? with|some oi,some oj=>oi.apart all.toArray oj|_,_=>true)))&&
  okT G all rest (listed.setIfInBounds i true)
 | .pure i rest,listed=>(Region.ready .any all.toArray listed).contains i&&vQ all listed i (blk all listed i all.length 0 [])&&
  ((List.range all.length).all fun j=>j==i||listed.getD j true||(blk all listed i all.length 0 []).contains j||(match all[i]?,all[j]? with|some oi,some oj=>oi.apart all.toArray oj|_,_=>true))&&
  okT G all rest (listed.setIfInBounds i true)
 | .one i rest,listed=> !(G i)&&decide (Region.ready .any all.toArray listed=[i])&&okT G all rest (listed.setIfInBounds i true)
 | .keep i rest,listed=>decide (Region.ready .any all.toArray listed=[i])&&okT G all rest (listed.setIfInBounds i true)
 | .fork x y a b,listed=>decide (Region.ready .any all.toArray listed=[x,y])&&(decide (a.size=b.size)&&(okT G all a (listed.setIfInBounds x true)&&okT G all b (listed.setIfInBounds y true)))
 | .yo x y u v a b,listed=>(u|| !(G x))&&((v|| !(G y))&&(decide (Region.ready .any all.toArray listed=[x,y])&&(decide (a.size=b.size)&&(okT G all a (listed.setIfInBounds x true)&&okT G all b (listed.setIfInBounds y true)))))
 | .lu x y z u v t a b c,listed=>(u|| !(G x))&&((v|| !(G y))&&((t|| !(G z))&&(decide (Region.ready .any all.toArray listed=[x,y,z])&&(decide (a.size=b.size)&&(decide (a.size=c.size)&&(okT G all a (listed.setIfInBounds x true)&&(okT G all b (listed.setIfInBounds y true)&&okT G all c (listed.setIfInBounds z true))))))))
theorem dU {all:List Oper}{i:Nat}{e:Env}{d:List Deferred}{w1:World}{Kx:Env->Heap->Prop}{Kf:Act->World->Prop}(H:stO P all all[i]? e w1.heap (fun e h''=>(G i=true->R w1.heap h'')/\Kx e h''))(fin:∀e' w',Rest w1 w'->Kx e' w'.heap->Kf ⟨e'.toArray,d⟩ w'):
 opD P all.toArray i (fun a' w'=>(G i=true->R w1.heap w'.heap)/\Rest w1 w'/\Kf a' w') ⟨e.toArray,d⟩ w1:=by
 cases hi:all[i]? with
 |none=>rw[hi]at H;exact H.elim
 |some o=>rw[hi]at H;exact VG (Kx:=Kx) hi H fin
theorem JY {gd:Option (Nat×Bool)}{all:List Oper}{e:Env}{A A' B B':Env->Prop}(ha:∀e,A e->A' e)(hb:∀e,B e->B' e)(H:ax gd all e A B):ax gd all e A' B':=by
 cases gd with
 |none=>unfold ax at H ⊢;exact ha _ H
 |some p=>
  obtain⟨j,want⟩:=p;unfold ax at H ⊢;simp only at H ⊢;cases hj:fQ all j with
  |none=>simp only[hj]at H ⊢;exact hb _ H
  |some t=>
   simp only[hj]at H ⊢;unfold au at H ⊢;cases hv:e.getD t undef with
   |bool b=>
    simp only[hv]at H ⊢;refine⟨fun h1=> ?_,fun h1=> ?_⟩
    .have h2:=H.1 h1;by_cases hw:true=want
     .rw[if_pos hw]at h2 ⊢;exact ha _ h2
     .rw[if_neg hw]at h2 ⊢;exact hb _ h2
    .have h2:=H.2 h1;by_cases hw:false=want
     .rw[if_pos hw]at h2 ⊢;exact ha _ h2
     .rw[if_neg hw]at h2 ⊢;exact hb _ h2
   |_=>first|(simp only[hv]at H ⊢;done)|(simp only[hv]at H ⊢;exact hb _ H)
theorem fC {all:List Oper}{o:Option Oper}{e:Env}{h:Heap}{K K':Env->Heap->Prop}(H:stO P all o e h K)(hk:∀e h,K e h->K' e h):stO P all o e h K':=by
 cases o with
 |none=>exact H.elim
 |some o=>exact JY (fun e he=>BG (fun v h hv=>hk _ _ hv) he) (fun e he=>hk _ _ he) H
theorem bf (hS:Sta R){all:List Oper}{k:aj}{w0:World}(hsel:Region.noSelect all.toArray=true):∀(t:PT) (listed:Array Bool) (e:Env) (d:List Deferred) (w:World),Rest w0 w->
 okT G all t listed=true->ah P R all t k e d w.heap->
 lQ P all.toArray R G (fun a w'=>k .normal a.tmps.toList a.defers w'.heap/\Rest w0 w') t.size listed ⟨e.toArray,d⟩ w
 | .fin,listed,e,d,w,hr,hok,H=>fun w1 hr1 hR1=>by
   refine⟨by simpa[okT]using hok,?_,hr.trans hr1⟩;simpa using H _ hR1
 | .quiet i rest,listed,e,d,w,hr,hok,H=>by
   simp only[okT,Bool.and_eq_true]at hok;obtain⟨⟨⟨hready,hbk⟩,hG⟩,hok⟩:=hok;unfold ah at H;cases hi:all[i]? with
   |none=>simp[hi]at H
   |some o=>
    simp only[hi]at H;have hi':all.toArray[i]? =some o:=by simpa using hi
    obtain⟨Bk,hBke⟩:∃Bk,Bk=blk all listed i all.length 0 []:=⟨_,rfl⟩;rw[<-hBke]at hbk hG;have hb1:∀j∈Bk,listed.getD j true=false:=fun j hj=>by
     have:=List.all_eq_true.1 hbk j hj;simp only[Bool.and_eq_true,Bool.not_eq_true']at this;exact this.1.1
    have hb2:∀j∈Bk,j≠i/\∀oj,all.toArray[j]? =some oj->∃e∈oj.after,Region.binds .any e=true/\(e.on=i\/e.on∈Bk):=fun j hj=>by
     have:=List.all_eq_true.1 hbk j hj;simp only[Bool.and_eq_true,bne_iff_ne,ne_eq]at this;refine⟨this.1.2,fun oj hoj=> ?_⟩;have hj2:all[j]? =some oj:=by simpa using hoj
     have h2:=this.2;rw[hj2]at h2;obtain⟨e,he,hb⟩:=Array.any_eq_true'.1 h2;simp only[Bool.and_eq_true,Bool.or_eq_true,beq_iff_eq,List.contains_eq_mem,decide_eq_true_eq]at hb;exact⟨e,he,hb.1,hb.2⟩
    have hfr:∀j oj,all.toArray[j]? =some oj->j≠i->listed.getD j true=false->j∉Bk->o.apart all.toArray oj=true/\G j=true:=by
     intro j oj hj hne hun hno;have hlt:j<all.length:=by have:=(Array.getElem?_eq_some_iff.1 hj).1;simpa using this
     have:=List.all_eq_true.1 hG j (List.mem_range.2 hlt);have hj2:all[j]? =some oj:=by simpa using hj
     simp only[hi,hj2,Bool.or_eq_true,Bool.and_eq_true,beq_iff_eq,hne,false_or,hun,Bool.false_eq_true,List.contains_eq_mem,decide_eq_true_eq,hno]at this;exact⟨this.2,this.1⟩
    have hrdy:i∈Region.ready .any all.toArray listed:=by simpa using hready
    rcases dB H o rfl with⟨hw,hA⟩|⟨hw,hB⟩
    .have hq:=tV hS hA;unfold iP at hq;obtain⟨v,hv,hk⟩:=hq;refine ja hS hi' (Region.noSelect_spec hsel) Bk hb2 rest.size listed _ w hfr hb1 hrdy (v:=v) ?_ ?_
     .refine .inl ⟨hw,fun w' hr' hR'=> ?_⟩;have h1:=hv _ hR';refine⟨h1.1,?_⟩;have h2:=h1.2 w' rfl;rw[dY,bW];unfold dQ at h2;unfold fH;split at h2
      .exact h2
      .exact h2
      .exact h2
      .exact h2
      .exact h2.elim
     .rw[ay];exact bf hS hsel rest _ _ d w hr hok hk
    .refine ja hS hi' (Region.noSelect_spec hsel) Bk hb2 rest.size listed _ w hfr hb1 hrdy (v:=undef) (.inr ⟨hw,rfl⟩) ?_;rw[ay];exact bf hS hsel rest _ _ d w hr hok hB
 | .pure i rest,listed,e,d,w,hr,hok,H=>by
   simp only[okT,Bool.and_eq_true]at hok;obtain⟨⟨⟨hready,hbk⟩,hG⟩,hok⟩:=hok;unfold ah at H;cases hi:all[i]? with
   |none=>simp[hi]at H
   |some o=>
    simp only[hi]at H;have hi':all.toArray[i]? =some o:=by simpa using hi
    obtain⟨Bk,hBke⟩:∃Bk,Bk=blk all listed i all.length 0 []:=⟨_,rfl⟩;rw[<-hBke]at hbk hG;have hb1:∀j∈Bk,listed.getD j true=false:=fun j hj=>by
     have:=List.all_eq_true.1 hbk j hj;simp only[Bool.and_eq_true,Bool.not_eq_true']at this;exact this.1.1
    have hb2:∀j∈Bk,j≠i/\∀oj,all.toArray[j]? =some oj->∃e∈oj.after,Region.binds .any e=true/\(e.on=i\/e.on∈Bk):=fun j hj=>by
     have:=List.all_eq_true.1 hbk j hj;simp only[Bool.and_eq_true,bne_iff_ne,ne_eq]at this;refine⟨this.1.2,fun oj hoj=> ?_⟩;have hj2:all[j]? =some oj:=by simpa using hoj
     have h2:=this.2;rw[hj2]at h2;obtain⟨e,he,hb⟩:=Array.any_eq_true'.1 h2;simp only[Bool.and_eq_true,Bool.or_eq_true,beq_iff_eq,List.contains_eq_mem,decide_eq_true_eq]at hb;exact⟨e,he,hb.1,hb.2⟩
    have hfr:∀j oj,all.toArray[j]? =some oj->j≠i->listed.getD j true=false->j∉Bk->o.apart all.toArray oj=true:=by
     intro j oj hj hne hun hno;have hlt:j<all.length:=by have:=(Array.getElem?_eq_some_iff.1 hj).1;simpa using this
     have:=List.all_eq_true.1 hG j (List.mem_range.2 hlt);have hj2:all[j]? =some oj:=by simpa using hj
     simp only[hi,hj2,Bool.or_eq_true,Bool.and_eq_true,beq_iff_eq,hne,false_or,hun,Bool.false_eq_true,List.contains_eq_mem,decide_eq_true_eq,hno]at this;exact this
    have hrdy:i∈Region.ready .any all.toArray listed:=by simpa using hready
    rcases dB H o rfl with⟨hw,hA⟩|⟨hw,hB⟩
    .obtain⟨hd,v,hk,hv⟩:=oD (ty:=o.type) hA;refine ig hS hi' (Region.noSelect_spec hsel) Bk hb2 rest.size listed _ w hfr hb1 hrdy (v:=v) ?_ ?_
     .refine .inl ⟨hw,fun w' hr'=>⟨hd,?_⟩⟩;rw[dY,bW,hv w'];exact⟨⟨rfl,rfl⟩,Rest.refl _⟩
     .rw[ay];exact bf hS hsel rest _ _ d w hr hok hk
    .refine ig hS hi' (Region.noSelect_spec hsel) Bk hb2 rest.size listed _ w hfr hb1 hrdy (v:=undef) (.inr ⟨hw,rfl⟩) ?_;rw[ay];exact bf hS hsel rest _ _ d w hr hok hB
 | .one i rest,listed,e,d,w,hr,hok,H=>by
   intro w1 hr1 hR1;simp only[okT,Bool.and_eq_true,decide_eq_true_eq,Bool.not_eq_true']at hok;obtain⟨⟨hG,h1⟩,hok⟩:=hok;rw[h1];refine⟨fun h=>by simp at h,fun q hq=> ?_⟩;have hq:q=i:=by simpa using hq
   subst hq;refine dU (Kx:=fun e h''=>ah P R all rest k e d h'') (fC (H _ hR1) fun e h hk=>⟨fun hh=>(by rw[hG]at hh;cases hh),hk⟩) fun e2 w2 hr2 K2=> ?_
   exact bf hS hsel rest _ _ d w2 (hr.trans (hr1.trans hr2)) hok K2
 | .keep i rest,listed,e,d,w,hr,hok,H=>by
   intro w1 hr1 hR1;simp only[okT,Bool.and_eq_true,decide_eq_true_eq]at hok;obtain⟨h1,hok⟩:=hok;rw[h1];refine⟨fun h=>by simp at h,fun q hq=> ?_⟩;have hq:q=i:=by simpa using hq
   subst hq;refine dU (Kx:=fun e h''=>ah P R all rest k e d h'') (fC (H _ hR1) fun e h hk=>⟨fun _=>hk.1,hk.2⟩) fun e2 w2 hr2 K2=> ?_
   exact bf hS hsel rest _ _ d w2 (hr.trans (hr1.trans hr2)) hok K2
 | .fork x y a b,listed,e,d,w,hr,hok,H=>by
   intro w1 hr1 hR1;simp only[okT,Bool.and_eq_true,decide_eq_true_eq]at hok;obtain⟨h1,h2,o1,o2⟩:=hok;obtain⟨A,B⟩:=H _ hR1;rw[h1];refine⟨fun h=>by simp at h,fun q hq=> ?_⟩;have hq:q=x\/q=y:=by simpa using hq
   rcases hq with rfl|rfl
   .refine dU (Kx:=fun e h''=>ah P R all a k e d h'') (fC A fun e h hk=>⟨fun _=>hk.1,hk.2⟩) fun e2 w2 hr2 K2=> ?_
    exact bf hS hsel a _ _ d w2 (hr.trans (hr1.trans hr2)) o1 K2
   .refine dU (Kx:=fun e h''=>ah P R all b k e d h'') (fC B fun e h hk=>⟨fun _=>hk.1,hk.2⟩) fun e2 w2 hr2 K2=> ?_
    have:=bf (w0:=w0) hS hsel b _ _ d w2 (hr.trans (hr1.trans hr2)) o2 K2;rw[<-h2]at this;exact this
 | .yo x y u v a b,listed,e,d,w,hr,hok,H=>by
   intro w1 hr1 hR1;simp only[okT,Bool.and_eq_true,decide_eq_true_eq,Bool.or_eq_true,Bool.not_eq_true']at hok;obtain⟨gx,gy,h1,h2,o1,o2⟩:=hok;obtain⟨A,B⟩:=H _ hR1;rw[h1];refine⟨fun h=>by simp at h,fun q hq=> ?_⟩;have hq:q=x\/q=y:=by simpa using hq
   rcases hq with rfl|rfl
   .refine dU (Kx:=fun e h''=>ah P R all a k e d h'') (fC A fun e h hk=>⟨fun hh=>hk.1 (gx.resolve_right (by rw[hh];decide)),hk.2⟩) fun e2 w2 hr2 K2=> ?_
    exact bf hS hsel a _ _ d w2 (hr.trans (hr1.trans hr2)) o1 K2
   .refine dU (Kx:=fun e h''=>ah P R all b k e d h'') (fC B fun e h hk=>⟨fun hh=>hk.1 (gy.resolve_right (by rw[hh];decide)),hk.2⟩) fun e2 w2 hr2 K2=> ?_
    have:=bf (w0:=w0) hS hsel b _ _ d w2 (hr.trans (hr1.trans hr2)) o2 K2;rw[<-h2]at this;exact this
 | .lu x y z u v t a b c,listed,e,d,w,hr,hok,H=>by
   intro w1 hr1 hR1;simp only[okT,Bool.and_eq_true,decide_eq_true_eq,Bool.or_eq_true,Bool.not_eq_true']at hok;obtain⟨gx,gy,gz,h1,h2,h3,o1,o2,o3⟩:=hok;obtain⟨A,B,C⟩:=H _ hR1;rw[h1];refine⟨fun h=>by simp at h,fun q hq=> ?_⟩;have hq:q=x\/q=y\/q=z:=by simpa using hq
   rcases hq with rfl|rfl|rfl
   .refine dU (Kx:=fun e h''=>ah P R all a k e d h'') (fC A fun e h hk=>⟨fun hh=>hk.1 (gx.resolve_right (by rw[hh];decide)),hk.2⟩) fun e2 w2 hr2 K2=> ?_
    exact bf hS hsel a _ _ d w2 (hr.trans (hr1.trans hr2)) o1 K2
   .refine dU (Kx:=fun e h''=>ah P R all b k e d h'') (fC B fun e h hk=>⟨fun hh=>hk.1 (gy.resolve_right (by rw[hh];decide)),hk.2⟩) fun e2 w2 hr2 K2=> ?_
    have:=bf (w0:=w0) hS hsel b _ _ d w2 (hr.trans (hr1.trans hr2)) o2 K2;rw[<-h2]at this;exact this
   .refine dU (Kx:=fun e h''=>ah P R all c k e d h'') (fC C fun e h hk=>⟨fun hh=>hk.1 (gz.resolve_right (by rw[hh];decide)),hk.2⟩) fun e2 w2 hr2 K2=> ?_
    have:=bf (w0:=w0) hS hsel c _ _ d w2 (hr.trans (hr1.trans hr2)) o3 K2;rw[<-h3]at this;exact this
theorem zB7 (hm:P.follows .mixedOrders=true)(hS:Sta R){id:Nat}{all:List Oper}{k:aj}{e:Env}{d:List Deferred}{h:Heap}(t:PT)
 (hsel:Region.noSelect all.toArray=true) (hlen:t.size=all.length) (hok:okT t.G all t (Array.replicate all.length false)=true)
 (H:ah P R all t k e d h):WP l P (.region id all.toArray true) k e d h:=by
 unfold WP;intro w hw;subst hw;refine wpIn_region_any hm ?_;have h1:=bf (w0:=w) (G:=t.G) hS hsel t _ e d {w with drawn:=w.drawn+1} ⟨rfl,rfl,rfl⟩ hok H;rw[hlen]at h1;have h2:=jc (l:=l) (Q':=fun x a w'=>k x a.tmps.toList a.defers w'.heap/\Rest w w') hS (fun a w' hq=>hq) _ _ _ _ h1;simpa using h2
variable {all:List Oper}{rest:PT}{k:aj}{e:Env}{d:List Deferred}{h:Heap}{dst:Option Tmp}{op:Op}{ty:TypeId}{pos:String}{after:Array Edge}{i x y:Nat}{a b:PT}
def xV (P:Program)(R:Heap->Heap->Prop)(all:List Oper)(rest:PT)(k:aj)(dst:Option Tmp)(e:Env)(d:List Deferred):Value->Heap->Prop:=fun v h=>ah P R all rest k (aU e dst v) d h
theorem Wt {v:Value}:xV P R all rest k dst e d v h=ah P R all rest k (aU e dst v) d h:=eqi rfl
def stT (P:Program)(R:Heap->Heap->Prop)(o:Option Oper)(all:List Oper)(rest:PT)(k:aj)(e:Env)(d:List Deferred)(h:Heap):Prop:=
 match o with
 |some o=>ax o.guard all e (fun e=>dK P R o.op o.type e h (fun v h'=>xV P R all rest k o.dst e d v h')) (fun e=>ah P R all rest k (aU e o.dst undef) d h)
 |none=>False
theorem JQ:ah P R all (.quiet i rest) k e d h=stT P R all[i]? all rest k e d h:=by simp only[ah,stT,xV]
theorem QX:stT P R (some ⟨dst,op,ty,pos,after,none⟩) all rest k e d h=dK P R op ty e h (xV P R all rest k dst e d):=by simp only[stT,ax]
def Pj (P:Program)(R:Heap->Heap->Prop)(o:Option Oper)(all:List Oper)(rest:PT)(k:aj)(e:Env)(d:List Deferred)(h:Heap):Prop:=
 match o with
 |some o=>ax o.guard all e (fun e=>fK P o.op e h (fun v h'=>xV P R all rest k o.dst e d v h')) (fun e=>ah P R all rest k (aU e o.dst undef) d h)
 |none=>False
theorem Kb:ah P R all (.pure i rest) k e d h=Pj P R all[i]? all rest k e d h:=by simp only[ah,Pj,xV]
theorem LH:Pj P R (some ⟨dst,op,ty,pos,after,none⟩) all rest k e d h=fK P op e h (xV P R all rest k dst e d):=by simp only[Pj,ax]
theorem Q8 {K:Env->Heap->Prop}:stO P all (some ⟨dst,op,ty,pos,after,none⟩) e h K=opW P op ty e h (fun v h'=>K (aU e dst v) h'):=by simp only[stO,ax]
def gtT (P:Program)(R:Heap->Heap->Prop)(v:Value)(s:Tmp)(want:Bool)(op:Op)(ty:TypeId)(all:List Oper)(rest:PT)(k:aj)(dst:Option Tmp)(e:Env)(d:List Deferred)(h:Heap):Prop:=
 au v (fun b=>if b=want then dK P R op ty (e.set s (.bool b)) h (xV P R all rest k dst (e.set s (.bool b)) d)else ah P R all rest k (aU (e.set s (.bool b)) dst undef) d h) (ah P R all rest k (aU e dst undef) d h)
def Y5 (P:Program)(R:Heap->Heap->Prop)(s:Option Tmp)(want:Bool)(op:Op)(ty:TypeId)(all:List Oper)(rest:PT)(k:aj)(dst:Option Tmp)(e:Env)(d:List Deferred)(h:Heap):Prop:=
 match s with|some s=>gtT P R (e.getD s undef) s want op ty all rest k dst e d h|none=>ah P R all rest k (aU e dst undef) d h
theorem RN {j:Nat}{want:Bool}:stT P R (some ⟨dst,op,ty,pos,after,some (j,want)⟩) all rest k e d h=Y5 P R (fQ all j) want op ty all rest k dst e d h:=by
 simp only[stT,ax,Y5];cases fQ all j<;>rfl
theorem Q4 {s:Tmp}{want:Bool}:Y5 P R (some s) want op ty all rest k dst e d h=gtT P R (e.getD s undef) s want op ty all rest k dst e d h:=eqi rfl
theorem Y8 {s:Tmp}:gtT P R (.bool true) s true op ty all rest k dst e d h=dK P R op ty (e.set s (.bool true)) h (xV P R all rest k dst (e.set s (.bool true)) d):=by simp[gtT,au]
theorem Xy {s:Tmp}:gtT P R (.bool false) s false op ty all rest k dst e d h=dK P R op ty (e.set s (.bool false)) h (xV P R all rest k dst (e.set s (.bool false)) d):=by simp[gtT,au]
theorem Y6 {s:Tmp}:gtT P R (.bool true) s false op ty all rest k dst e d h=ah P R all rest k (aU (e.set s (.bool true)) dst undef) d h:=by simp[gtT,au]
theorem Ya {s:Tmp}:gtT P R (.bool false) s true op ty all rest k dst e d h=ah P R all rest k (aU (e.set s (.bool false)) dst undef) d h:=by simp[gtT,au]
theorem QD {s:Tmp}{w:Bool}{vs:Array Value}:gtT P R (.tuple vs) s w op ty all rest k dst e d h=ah P R all rest k (aU e dst undef) d h:=by simp[gtT,au]
def gtP (P:Program)(R:Heap->Heap->Prop)(v:Value)(s:Tmp)(want:Bool)(op:Op)(all:List Oper)(rest:PT)(k:aj)(dst:Option Tmp)(e:Env)(d:List Deferred)(h:Heap):Prop:=
 au v (fun b=>if b=want then fK P op (e.set s (.bool b)) h (xV P R all rest k dst (e.set s (.bool b)) d)else ah P R all rest k (aU (e.set s (.bool b)) dst undef) d h) (ah P R all rest k (aU e dst undef) d h)
def YH (P:Program)(R:Heap->Heap->Prop)(s:Option Tmp)(want:Bool)(op:Op)(all:List Oper)(rest:PT)(k:aj)(dst:Option Tmp)(e:Env)(d:List Deferred)(h:Heap):Prop:=
 match s with|some s=>gtP P R (e.getD s undef) s want op all rest k dst e d h|none=>ah P R all rest k (aU e dst undef) d h
theorem Kk {j:Nat}{want:Bool}:Pj P R (some ⟨dst,op,ty,pos,after,some (j,want)⟩) all rest k e d h=YH P R (fQ all j) want op all rest k dst e d h:=by
 simp only[Pj,ax,YH];cases fQ all j<;>rfl
theorem Ps {s:Tmp}{want:Bool}:YH P R (some s) want op all rest k dst e d h=gtP P R (e.getD s undef) s want op all rest k dst e d h:=eqi rfl
theorem Z9 {s:Tmp}:gtP P R (.bool true) s true op all rest k dst e d h=fK P op (e.set s (.bool true)) h (xV P R all rest k dst (e.set s (.bool true)) d):=by simp[gtP,au]
theorem ZZ {s:Tmp}:gtP P R (.bool false) s false op all rest k dst e d h=fK P op (e.set s (.bool false)) h (xV P R all rest k dst (e.set s (.bool false)) d):=by simp[gtP,au]
theorem ZR {s:Tmp}:gtP P R (.bool true) s false op all rest k dst e d h=ah P R all rest k (aU (e.set s (.bool true)) dst undef) d h:=by simp[gtP,au]
theorem ZC {s:Tmp}:gtP P R (.bool false) s true op all rest k dst e d h=ah P R all rest k (aU (e.set s (.bool false)) dst undef) d h:=by simp[gtP,au]
theorem Q7 {s:Tmp}{w:Bool}{vs:Array Value}:gtP P R (.tuple vs) s w op all rest k dst e d h=ah P R all rest k (aU e dst undef) d h:=by simp[gtP,au]
def gtO (P:Program)(v:Value)(s:Tmp)(want:Bool)(op:Op)(ty:TypeId)(dst:Option Tmp)(e:Env)(h:Heap)(K:Env->Heap->Prop):Prop:=
 au v (fun b=>if b=want then opW P op ty (e.set s (.bool b)) h (fun v h'=>K (aU (e.set s (.bool b)) dst v) h')else K (aU (e.set s (.bool b)) dst undef) h) (K (aU e dst undef) h)
def YI (P:Program)(s:Option Tmp)(want:Bool)(op:Op)(ty:TypeId)(dst:Option Tmp)(e:Env)(h:Heap)(K:Env->Heap->Prop):Prop:=
 match s with|some s=>gtO P (e.getD s undef) s want op ty dst e h K|none=>K (aU e dst undef) h
theorem Qn {j:Nat}{want:Bool}{K:Env->Heap->Prop}:stO P all (some ⟨dst,op,ty,pos,after,some (j,want)⟩) e h K=YI P (fQ all j) want op ty dst e h K:=by
 simp only[stO,ax,YI];cases fQ all j<;>rfl
theorem Qg {s:Tmp}{want:Bool}{K:Env->Heap->Prop}:YI P (some s) want op ty dst e h K=gtO P (e.getD s undef) s want op ty dst e h K:=eqi rfl
theorem YR {s:Tmp}{K:Env->Heap->Prop}:gtO P (.bool true) s true op ty dst e h K=opW P op ty (e.set s (.bool true)) h (fun v h'=>K (aU (e.set s (.bool true)) dst v) h'):=by simp[gtO,au]
theorem ZU {s:Tmp}{K:Env->Heap->Prop}:gtO P (.bool false) s false op ty dst e h K=opW P op ty (e.set s (.bool false)) h (fun v h'=>K (aU (e.set s (.bool false)) dst v) h'):=by simp[gtO,au]
theorem Yo {s:Tmp}{K:Env->Heap->Prop}:gtO P (.bool true) s false op ty dst e h K=K (aU (e.set s (.bool true)) dst undef) h:=by simp[gtO,au]
theorem Z5 {s:Tmp}{K:Env->Heap->Prop}:gtO P (.bool false) s true op ty dst e h K=K (aU (e.set s (.bool false)) dst undef) h:=by simp[gtO,au]
theorem QC {s:Tmp}{w:Bool}{vs:Array Value}{K:Env->Heap->Prop}:gtO P (.tuple vs) s w op ty dst e h K=K (aU e dst undef) h:=by simp[gtO,au]
set_option linter.defProp false
def treeS:=And.intro (And.intro (And.intro @JQ @Kb) (And.intro (And.intro @QX @LH) (And.intro (And.intro @RN @Kk) (And.intro @Q8 @Qn))))
 (And.intro (And.intro (And.intro @Q4 @Ps) (And.intro @Qg @Wt)) (And.intro (And.intro (And.intro @Y8 @Xy) (And.intro @Y6 (And.intro @Ya @QD))) (And.intro (And.intro (And.intro @Z9 @ZZ) (And.intro @ZR (And.intro @ZC @Q7))) (And.intro (And.intro @YR @ZU) (And.intro @Yo (And.intro @Z5 @QC))))))
theorem zAN (H:∀h',R h h'->k .normal e d h'):ah P R all .fin k e d h:=H
theorem Zk (H:∀h',R h h'->stO P all all[i]? e h' (fun e h''=>ah P R all rest k e d h'')):ah P R all (.one i rest) k e d h:=H
theorem YD (H:∀h',R h h'->stO P all all[i]? e h' (fun e h''=>R h' h''/\ah P R all rest k e d h'')):ah P R all (.keep i rest) k e d h:=H
end tree
section fresh
variable {P:Program}{h:Heap}{er:Env}{ty:TypeId}
end fresh
end Go.Eng
end
section
namespace Go.Proofs.YtejmkibjpaoahaaGreatDoor
open Go Go.Proofs Go.Eng Go.Run Tab RL
section
variable {K:Value->Eng.Heap->Prop}{a:Option Addr}{c:Nat}{h:Eng.Heap}{j:Nat}{k:Int}{n:Nat}{ty:TypeId}{x:Operand}{xs:List Int}
set_option maxRecDepth 100000
set_option linter.unusedSimpArgs false
set_option linter.unusedVariables false
set_option linter.defProp false
set_option maxHeartbeats 1000000
set_option linter.defProp false
def YtejmkibjpaoahaaGreatDoorRW1Fs130:=(And.intro (And.intro @by3 @inf3) (And.intro @sz3 (And.intro @zero3 @Tryz.underlying29)))
def YtejmkibjpaoahaaGreatDoorRW1Fs131:=(And.intro (And.intro (And.intro (And.intro @agg29 @agg3) (And.intro @by3 @fo212_1)) (And.intro (And.intro @fo216_0 @fo216_1) (And.intro @fps212_0 (And.intro @fps212_1 @fps216_0)))) (And.intro (And.intro (And.intro @inf29 @inf3) (And.intro @okf212 (And.intro @okf216 @sz29))) (And.intro (And.intro @sz3 @zero212) (And.intro @zero216 (And.intro @Tryz.underlying29 @Tryz.underlying214)))))
def YtejmkibjpaoahaaGreatDoorRW1Fs132:=(And.intro @agg3 (And.intro @inf3 @sz3))
def YtejmkibjpaoahaaGreatDoorRW1Fs187:=(And.intro (And.intro @by3 @inf3) (And.intro @sz3 @Tryz.underlying29))
theorem rwithin63 (n lo hi:Int)(p q:Nat)(h:Eng.Heap)(hp:h[p]? =some (.cells #[.int .i64 lo] 3))(hq:h[q]? =some (.cells #[.int .i64 hi] 3)):
 ak Tryz.prog 132 (#[]++ #[.int .i64 n]++ #[.pointer (some ⟨p,0,none⟩),.pointer (some ⟨q,0,none⟩)]) h (fun v h'=>v= .bool (decide (n<lo)||decide (hi<n))/\Ext h h'):=by
 simp only[Array.append_empty,Array.empty_append,List.append_toArray,List.cons_append,List.nil_append]
 (refine Rm Tryz.func132 rfl bod132 ?_;simp only[Tryz.ntmps132,Tryz.results132,coreS,U1,splice,Value.cells,Value.oneCell',Nat.reduceAdd,Nat.reduceSub,Nat.reduceMul,Nat.reduceLeDiff,Int.reduceEq,Nat.reduceEqDiff,YtejmkibjpaoahaaGreatDoorRW1Fs132])
 simp only[hp,hq,coreS,U1,splice,Value.cells,Value.oneCell',Nat.reduceAdd,Nat.reduceSub,Nat.reduceMul,Nat.reduceLeDiff,Int.reduceEq,Nat.reduceEqDiff,YtejmkibjpaoahaaGreatDoorRW1Fs132];constructor
 .intro h1;simp[h1,Ext.refl]
 .intro h1;simp[h1,Ext.refl]
theorem rwithin25 (lo hi:Int)(a:Option Addr)(n c:Nat)(xs:List Int)(h:Eng.Heap)(hs:eu h a n xs)(hl:n<=1000000):
 ak Tryz.prog 75 #[.int .i64 lo,.int .i64 hi,.slice a n c] h (fun v h'=>v= .bool (inB lo hi xs)/\Ext h h'):=by
 (refine Rm Tryz.func75 rfl bod75 ?_;simp only[Tryz.ntmps75,Tryz.results75,coreS,U1,splice,Value.cells,Value.oneCell',Nat.reduceAdd,Nat.reduceSub,Nat.reduceMul,Nat.reduceLeDiff,Int.reduceEq,Nat.reduceEqDiff])
 refine ak.mono (containsFunc112 a n c xs 132 _ (fun x=>decide (x<lo)||decide (hi<x)) _ ((hs.push _).push _) hl ?_) ?_
 .intro x _ h' hx;exact rwithin63 x lo hi _ _ h' (hx.get (by simp only[uo,Rh,Nat.left_eq_add,Nat.succ_ne_self,if_false,if_true])) (hx.get (by simp only[uo,Rh,if_true]))
 .rintro v h2 ⟨rfl,hx⟩;simp only[coreS,Value.cells,Value.oneCell',Nat.reduceAdd,Nat.reduceSub,Nat.reduceMul,Nat.reduceLeDiff,Int.reduceEq,Nat.reduceEqDiff];refine⟨?_,hx.zBe.zBe⟩;congr 1;simp only[inB,List.not_any_eq_all_not];congr 1;funext x;by_cases h1:x<lo<;>by_cases h2:hi<x<;>simp[h1,h2,Int.not_lt.1,Int.not_le]<;>omega
structure Rim (k:Int)(xs:List Int):Prop where
 kinds:1<=k/\k<=4
 len:1<=xs.length/\xs.length<=64
 all:∀x∈xs,0<=x/\x<=k-1
theorem Rim.allB (R:Rim k xs):inB 0 (k-1) xs=true:=by
 simp only[inB,List.all_eq_true,Bool.and_eq_true,decide_eq_true_eq];exact R.all
theorem Rim.get (R:Rim k xs){i:Nat}(hi:i<xs.length):0<=xs.getD i 0/\xs.getD i 0<=k-1:=by
 refine R.all _ ?_;simp[List.getD,List.getElem?_eq_getElem hi]
theorem checkRim60 (k:Int)(a:Option Addr)(n c:Nat)(xs:List Int)(h:Eng.Heap)(hs:eu h a n xs)(R:Rim k xs):
 ak Tryz.prog 130 #[.int .i64 k,.slice a n c] h (fun v h'=>v= .int .i64 0/\Ext h h'):=by
 have hn:=hs.len;have hk:=R.kinds;have hL:=R.len
 (refine Rm Tryz.func130 rfl bod130 ?_;simp only[Tryz.ntmps130,Tryz.results130,coreS,U1,splice,Value.cells,Value.oneCell',Nat.reduceAdd,Nat.reduceSub,Nat.reduceMul,Nat.reduceLeDiff,Int.reduceEq,Nat.reduceEqDiff,YtejmkibjpaoahaaGreatDoorRW1Fs130])
 refine ak.mono (rwithin25 1 4 _ _ _ [k] _ (intsV_one jD) (by omega)) ?_;rintro v h1 ⟨rfl,x1⟩;have b1:inB 1 4 [k]=true:=by simp[inB];omega
 replace x1:=x1.zBe
 simp only[b1,Bool.not_true,coreS,Value.cells,Value.oneCell',Nat.reduceAdd,Nat.reduceSub,Nat.reduceMul,Nat.reduceLeDiff,Int.reduceEq,Nat.reduceEqDiff,YtejmkibjpaoahaaGreatDoorRW1Fs130];refine ak.mono (rwithin25 1 64 _ _ _ [(n:Int)] _ (intsV_one jD) (by omega)) ?_;rintro v h2 ⟨rfl,x2⟩;have b2:inB 1 64 [(n:Int)]=true:=by simp[inB];omega
 replace x2:=x2.zBe
 simp only[b2,Bool.not_true,coreS,Value.cells,Value.oneCell',Nat.reduceAdd,Nat.reduceSub,Nat.reduceMul,Nat.reduceLeDiff,Int.reduceEq,Nat.reduceEqDiff,YtejmkibjpaoahaaGreatDoorRW1Fs130];refine⟨by rw[zBS];omega,?_⟩;refine ak.mono (rwithin25 0 (k-1) a n c xs _ (hs.ext (x1.trans x2)) (by omega)) ?_;rintro v h3 ⟨rfl,x3⟩;simp only[R.allB,Bool.not_true,coreS,Value.cells,Value.oneCell',Nat.reduceAdd,Nat.reduceSub,Nat.reduceMul,Nat.reduceLeDiff,Int.reduceEq,Nat.reduceEqDiff,YtejmkibjpaoahaaGreatDoorRW1Fs130];exact(x1.trans x2).trans x3
def rdC (k:Int)(a:Option Addr)(n c:Nat)(o:List Int):List Value:= .int .i64 k:: .slice a n c::ints o
def cntL (xs:List Int):List Int:=[((xs.count 0:Nat):Int),((xs.count 1:Nat):Int),((xs.count 2:Nat):Int),((xs.count 3:Nat):Int)]
theorem cntL_length (xs:List Int):(cntL xs).length=4:=rfl
theorem cntL_get (hj:j<4):(cntL xs).getD j 0=((xs.count (j:Int):Nat):Int):=by
 rcases(by omega:j=0\/j=1\/j=2\/j=3)with rfl|rfl|rfl|rfl<;>rfl
theorem cntL_next (hj:j<4):(cntL xs).set j ((cntL xs).getD j 0+1)=cntL (xs++[(j:Int)]):=by
 rcases(by omega:j=0\/j=1\/j=2\/j=3)with rfl|rfl|rfl|rfl<;>simp[cntL,List.count_append,List.count_singleton]
theorem take_nextI {i:Nat}(hi:i<xs.length):xs.take (i+1)=xs.take i++[xs.getD i 0]:=by
 rw[List.take_add_one,List.getElem?_eq_getElem hi];simp[List.getD,List.getElem?_eq_getElem hi]
theorem rdC_at {o:List Int}(hj:j<o.length):(rdC k a n c o)[2+j]? =some (.int .i64 (o.getD j 0)):=by
 rw[Nat.add_comm,rdC,List.getElem?_cons_succ,List.getElem?_cons_succ,Cn _ _ hj]
theorem rdC_set {o:List Int}{v:Int}(hj:j<o.length):splice (rdC k a n c o) (2+j) [.int .i64 v]=rdC k a n c (o.set j v):=by
 rw[MN _ _ _ (by simp[rdC,aR];omega),Nat.add_comm,rdC,List.set_cons_succ,List.set_cons_succ,ints_set];rfl
structure Rd (h:Eng.Heap)(b:Nat)(k:Int)(a:Option Addr)(n c:Nat)(xs:List Int):Prop where
 cells:h[b]? =some (.cells (rdC k a n c (cntL xs)).toArray 216)
 row:eu h a n xs
 cap:n<=c
theorem Rd.ext {h':Eng.Heap}{b:Nat}(H:Rd h b k a n c xs)(x:Ext h h'):Rd h' b k a n c xs:=⟨x.get H.cells,H.row.ext x,H.cap⟩
theorem clr25 {er:Env}{ct:TypeId}{g off:Nat}{cur:List Value}(hx:ev er x= .slice (some ⟨g,off,none⟩) n c)(hb:h[g]? =some (.cells cur.toArray ct (0,0)))(hl:off+n<=cur.length)(H:∀h',h'[g]? =some (.cells (splice cur off (List.replicate n (.int .i64 0))).toArray ct (0,0))->Upd h h' g->K (.tuple #[]) h'):aI Tryz.prog (.call ⟨.builtin .clear,#[x],#[29]⟩) ty er h K:=
 Xl Tryz.underlying29 zero3 hx hb hl H
theorem newReader61 (k:Int)(a:Option Addr)(n c:Nat)(xs:List Int)(h:Eng.Heap)(hs:eu h a n xs)(hc:n<=c)(R:Rim k xs):
 ak Tryz.prog 131 #[.int .i64 k,.slice a n c] h (fun v h'=>∃b,v= .pointer (some ⟨b,0,none⟩)/\Rd h' b k a n c xs/\Ext h h'):=by
 have hn:=hs.len;have hk:=R.kinds;have hL:=R.len
 (refine Rm Tryz.func131 rfl bod131 ?_;simp only[Tryz.ntmps131,Tryz.results131,coreS,U1,splice,Value.cells,Value.oneCell',Nat.reduceAdd,Nat.reduceSub,Nat.reduceMul,Nat.reduceLeDiff,Int.reduceEq,Nat.reduceEqDiff,YtejmkibjpaoahaaGreatDoorRW1Fs131])
 refine⟨by omega,by omega,by omega,by omega,?_⟩;refine clr25 (cur:=rdC k a n c [0,0,0,0]) rfl jD (by simp[rdC,ints]) fun h1 g1 u1=> ?_
 have x1:Ext h h1:=u1.ext ((Ext.refl h).push _) (by omega)
 replace g1:h1[h.size]? =some (.cells (rdC k a n c (cntL (xs.take 0))).toArray 216):=g1
 simp only[g1,rdC,coreS,Value.cells,Value.oneCell',Nat.reduceAdd,Nat.reduceSub,Nat.reduceMul,Nat.reduceLeDiff,Int.reduceEq,Nat.reduceEqDiff,YtejmkibjpaoahaaGreatDoorRW1Fs131];refine zAi [7,23,24,25,26,27,28,29,30,31,32,33,34,35,36,37] (fun g h'=>∃i:Nat,i<=n/\g 23= .int .i64 i/\h'[h.size]? =some (.cells (rdC k a n c (cntL (xs.take i))).toArray 216)/\Ext h h') (fun g _=>match g 23 with| .int _ m=>n-m.toNat|_=>0) ⟨0,by omega,rfl,g1,x1⟩ ?_;rintro g h' ⟨i,hi,hg,hb,x⟩;simp only[hg,coreS,Value.cells,Value.oneCell',Nat.reduceAdd,Nat.reduceSub,Nat.reduceMul,Nat.reduceLeDiff,Int.reduceEq,Nat.reduceEqDiff,YtejmkibjpaoahaaGreatDoorRW1Fs131];refine⟨fun hlt=> ?_,fun hge=> ?_⟩
 .have hil:i<xs.length:=by omega
  have hr:=R.get hil;obtain⟨j,hj⟩:∃j:Nat,xs.getD i 0=(j:Int):=⟨(xs.getD i 0).toNat,by omega⟩;have hj4:j<4:=by omega
  simp only[(hs.ext x).cell hil,hj,coreS,Value.cells,Value.oneCell',Nat.reduceAdd,Nat.reduceSub,Nat.reduceMul,Nat.reduceLeDiff,Int.reduceEq,Nat.reduceEqDiff,YtejmkibjpaoahaaGreatDoorRW1Fs131]
  repeat (refine And.intro (by first|omega|(rw[zBS];omega)|rfl|assumption|(exact(hs.ext x).isSome (by omega))) ?_)
  refine zB9 (by kernel_rfl) zBp [(0,0),(1,0),(2,0),(3,0),(4,0),(5,0),(6,0),(7,0),(8,0),(9,0),(10,1)] (by kernel_rfl) rfl (by kernel_rfl) ?_;simp only[hb,coreS,Value.cells,Value.oneCell',Nat.reduceAdd,Nat.reduceSub,Nat.reduceMul,Nat.reduceLeDiff,Int.reduceEq,Nat.reduceEqDiff,drawS,YtejmkibjpaoahaaGreatDoorRW1Fs131];refine⟨by omega,?_⟩;rw[rdC_at (by rw[cntL_length];exact hj4)];simp only[hb,coreS,Value.cells,Value.oneCell',Nat.reduceAdd,Nat.reduceSub,Nat.reduceMul,Nat.reduceLeDiff,Int.reduceEq,Nat.reduceEqDiff,drawS,YtejmkibjpaoahaaGreatDoorRW1Fs131];have hcn:(cntL (xs.take i)).getD j 0<=64/\0<=(cntL (xs.take i)).getD j 0:=by
   rw[cntL_get hj4];have:=List.count_le_length (a:=(j:Int)) (l:=xs.take i);have h2:(xs.take i).length<=i:=List.length_take_le i xs;omega
  refine⟨by rw[zBS];omega,by omega,?_⟩;refine Oy hb (by simp[rdC,aR,cntL_length];omega) fun h3 g3 u3=> ?_
  rw[rdC_set (by rw[cntL_length];exact hj4),cntL_next hj4,<-hj,<-take_nextI hil]at g3;simp only[Ye,coreS,Value.cells,Value.oneCell',Nat.reduceAdd,Nat.reduceSub,Nat.reduceMul,Nat.reduceLeDiff,Int.reduceEq,Nat.reduceEqDiff,drawS,YtejmkibjpaoahaaGreatDoorRW1Fs131];refine⟨by rw[zBS];omega,Zr (by kernel_rfl) ⟨i+1,by omega,rfl,g3,u3.ext x (by omega)⟩ ?_⟩;show n-((i:Int)+1).toNat<n-(i:Int).toNat;omega
 .have:i=n:=by omega
  subst this;rw[List.take_of_length_le (by omega)]at hb;exact⟨h.size,rfl,⟨hb,hs.ext x,hc⟩,x⟩
theorem open24 (k:Int)(a:Option Addr)(n c:Nat)(xs:List Int)(h:Eng.Heap)(hs:eu h a n xs)(hc:n<=c)(R:Rim k xs):
 ak Tryz.prog 74 #[.int .i64 k,.slice a n c] h (fun v h'=>∃b,v= .tuple #[.pointer (some ⟨b,0,none⟩),.int .i64 0]/\Rd h' b k a n c xs/\Ext h h'):=by
 (refine Rm Tryz.func74 rfl bod74 ?_;simp only[Tryz.ntmps74,Tryz.results74,coreS,U1,splice,Value.cells,Value.oneCell',Nat.reduceAdd,Nat.reduceSub,Nat.reduceMul,Nat.reduceLeDiff,Int.reduceEq,Nat.reduceEqDiff])
 refine ak.mono (checkRim60 k a n c xs h hs R) ?_;rintro v h1 ⟨rfl,x1⟩;simp only[coreS,Value.cells,Value.oneCell',Nat.reduceAdd,Nat.reduceSub,Nat.reduceMul,Nat.reduceLeDiff,Int.reduceEq,Nat.reduceEqDiff];refine ak.mono (newReader61 k a n c xs h1 (hs.ext x1) hc R) ?_;rintro v h2 ⟨b,rfl,R2,x2⟩;simp only[coreS,Value.cells,Value.oneCell',Nat.reduceAdd,Nat.reduceSub,Nat.reduceMul,Nat.reduceLeDiff,Int.reduceEq,Nat.reduceEqDiff];exact⟨b,rfl,R2,x1.trans x2⟩
theorem app25 {er:Env}{m0:Nat}{y:Operand}{b:Option Addr}{len cap m:Nat}{ys:List Int}(hx:ev er x= .slice a len cap)(hy:ev er y= .slice b m c)(O:eG m0 h 3 a len cap xs)(h0h:m0<=h.size)(I:eu h b m ys)(hb:len+m<=100000)(H:∀a' cap' h',eG m0 h' 3 a' (len+m) cap' (xs++ys)->App h h' a a'->K (.slice a' (len+m) cap') h'):aI Tryz.prog (.call ⟨.builtin .append,#[x,y],#[29,29]⟩) ty er h K:=
 WW Tryz.underlying29 Tryz.underlying29 inf3 sz3 (by rw[by3];decide) zero3 hx hy O h0h I hb H
theorem bltR_cap {vs:List Value}{u:Option TypeDesc}{F:Prop}:lZ .cap vs u h K F=F:=by
 unfold lZ;split<;>first|rfl|(rename_i hh;cases hh)|simp_all
theorem capR {e:Env}{t el:TypeId}(hu:Tryz.prog.underlying t=some (.slice el))(hx:ev e x= .slice a n c)(H:K (.int .i64 c) h):aI Tryz.prog (.call ⟨.builtin .cap,#[x],#[t]⟩) ty e h K:=
 aK rfl _ H fun w _=>by simp[execOp,resolve,invoke,builtin,hx,Builtin.cap_,goInt,run_underlying hu]
theorem grow119 (k:Nat)(hk:0<k)(hk2:k<=1000)(h:Eng.Heap):ak Tryz.prog 187 #[.slice none 0 0,.int .i64 k] h (fun v h'=>(∃a cap,v= .slice a 0 cap/\eG h.size h' 3 a 0 cap [])/\Ext h h'):=by
 have h0:¬((k:Nat):Int)<0:=by omega
 have h1:(0:Int)<((k:Nat):Int):=by omega
 have h2:(k:Int)-0=(k:Nat):=by omega
 (refine Rm Tryz.func187 rfl bod187 ?_;simp only[Tryz.ntmps187,Tryz.results187,coreS,U1,splice,Value.cells,Value.oneCell',Nat.reduceAdd,Nat.reduceSub,Nat.reduceMul,Nat.reduceLeDiff,Int.reduceEq,Nat.reduceEqDiff,YtejmkibjpaoahaaGreatDoorRW1Fs187])
 simp only[h0,h1,h2,decide_true,decide_false,coreS,Value.cells,Value.oneCell',Nat.reduceAdd,Nat.reduceSub,Nat.reduceMul,Nat.reduceLeDiff,Int.reduceEq,Nat.reduceEqDiff,YtejmkibjpaoahaaGreatDoorRW1Fs187];rw[bltR_cap];refine capR Tryz.underlying29 rfl ?_;have h3:(((0:Nat):Int)-((0:Nat):Int))=0:=rfl;have h4:((0:Nat):Int)=0:=rfl;simp only[h3,h2,h1,decide_true,coreS,Value.cells,Value.oneCell',Nat.reduceAdd,Nat.reduceSub,Nat.reduceMul,Nat.reduceLeDiff,Int.reduceEq,Nat.reduceEqDiff,YtejmkibjpaoahaaGreatDoorRW1Fs187];refine⟨by rw[zBS];omega,by rw[zBS];omega,?_⟩;rw[bltR_cap];refine capR Tryz.underlying29 rfl ?_;simp only[h3,h4,h2,h1,decide_true,coreS,Value.cells,Value.oneCell',Nat.reduceAdd,Nat.reduceSub,Nat.reduceMul,Nat.reduceLeDiff,Int.reduceEq,Nat.reduceEqDiff,YtejmkibjpaoahaaGreatDoorRW1Fs187];refine⟨by omega,by omega,by omega,by omega,?_⟩;refine Un (h0:=h.size) (s:=1) (len:=0) (cap:=0) (k:=k) (olds:=[]) Tryz.underlying29 Tryz.underlying3 inf3 sz3 zero3 rfl (by omega) rfl rfl (.inl rfl) rfl hk (by omega) (by omega) (by rw[by3];omega) (Nat.le_refl _) fun c2 h2' zs hz O x=> ?_
 have hcap:=O.cap;simp only[h3,h4,coreS,Value.cells,Value.oneCell',Nat.reduceAdd,Nat.reduceSub,Nat.reduceMul,Nat.reduceLeDiff,Int.reduceEq,Nat.reduceEqDiff,YtejmkibjpaoahaaGreatDoorRW1Fs187];refine⟨by omega,by omega,by omega,by omega,⟨some ⟨h.size,0,none⟩,c2,by simp,?_⟩,x⟩;rcases O.ok with⟨e,_⟩|⟨g,cur,e,o1,o2,o3,o4,o5⟩
 .cases e
 .exact⟨by simp,.inr ⟨g,cur,e,o1,o2,by omega,by omega,by simp[ints]⟩⟩
end
end Go.Proofs.YtejmkibjpaoahaaGreatDoor
end
section
namespace Go.Proofs.YtejmkibjpaoahaaGreatDoor
set_option linter.unusedSimpArgs false
set_option linter.unusedVariables false
set_option linter.defProp false
namespace LS
section
variable {A:Nat}{f:Nat->Nat}
def sm (f:Nat->Int):Nat->Int
 |0=>0
 |n+1=>sm f n+f n
theorem sm_congr {f g:Nat->Int}:∀{n:Nat},(∀i,i<n->f i=g i)->sm f n=sm g n
 |0,_=>rfl
 |n+1,h=>by rw[sm,sm,sm_congr fun i hi=>h i (by omega),h n (by omega)]
theorem sm_add (f g:Nat->Int):∀n,sm (fun i=>f i+g i) n=sm f n+sm g n
 |0=>rfl
 |n+1=>by rw[sm,sm,sm,sm_add f g n];omega
theorem sm_one (a:Nat)(x:Int):∀n,sm (fun i=>if i=a then x else 0) n=if a<n then x else 0
 |0=>rfl
 |n+1=>by
  rw[sm,sm_one a x n];by_cases h:n=a
  .subst h;rw[if_neg (by omega),if_pos rfl,if_pos (by omega)];omega
  .rw[if_neg h];by_cases h2:a<n
   .rw[if_pos h2,if_pos (by omega)];omega
   .rw[if_neg h2,if_neg (by omega)];omega
theorem sm_zero {f:Nat->Int}{n:Nat}(h:∀i,i<n->f i=0):sm f n=0:=by
 rw[sm_congr (g:=fun _=>0) h];induction n with
 |zero=>rfl
 |succ n ih=>rw[sm,ih fun i hi=>h i (by omega)];rfl
structure P where
 a:Nat
 b:Nat
 x:Int
def cs (f:Nat->Nat)(A r:Nat)(l:Nat->Int):Int:=sm (fun i=>if f i=r then l i else 0) A
end
end LS
end Go.Proofs.YtejmkibjpaoahaaGreatDoor
end
section
namespace Go.Proofs.YtejmkibjpaoahaaGreatDoor
set_option linter.unusedSimpArgs false
set_option linter.unusedVariables false
set_option linter.defProp false
namespace LS
section
variable {i k x y:Nat}{z:Nat->Prop}
theorem and_half (x y:Nat):(x&&&y)/2=x/2&&&y/2:=by
 apply Nat.eq_of_testBit_eq;intro i;rw[Nat.testBit_and,Nat.testBit_div_two,Nat.testBit_div_two,Nat.testBit_div_two,Nat.testBit_and]
theorem and_low (x y:Nat):(x&&&y)% 2=x % 2*(y % 2):=by
 have h:=Nat.testBit_and x y 0;rw[Nat.testBit_zero,Nat.testBit_zero,Nat.testBit_zero]at h;rcases Nat.mod_two_eq_zero_or_one x with hx|hx<;>rcases Nat.mod_two_eq_zero_or_one y with hy|hy<;>rcases Nat.mod_two_eq_zero_or_one (x&&&y)with hz|hz<;>rw[hx,hy,hz]at h<;>rw[hx,hy,hz]<;>simp at h
theorem next_part:∀(q p l:Nat),q&&&l=q->p&&&l=p->q<p->q<=(p-1)&&&l:=fun q=>by
 induction q using Nat.strongRecOn with
 |ind q ih=>
  intro p l hq hp hlt;by_cases h0:q=0
  .omega
  have a1:=and_half q l;have a2:=and_low q l;have b1:=and_half p l;have b2:=and_low p l;rw[hq]at a1 a2;rw[hp]at b1 b2;have c1:=and_half (p-1) l;have c2:=and_low (p-1) l;rcases Nat.mod_two_eq_zero_or_one p with hp2|hp2
  .have e1:(p-1)/2=p/2-1:=by omega
   have e2:(p-1)% 2=1:=by omega
   rw[e1]at c1;rw[e2,Nat.one_mul]at c2;have h1:=ih (q/2) (by omega) (p/2) (l/2) a1.symm b1.symm (by omega);have h2:q % 2<=l % 2:=by
    rcases Nat.mod_two_eq_zero_or_one l with h|h
    .rw[h,Nat.mul_zero]at a2;omega
    .omega
   omega
  .have e1:(p-1)/2=p/2:=by omega
   rw[e1,<-b1]at c1;omega
theorem and_sub (p l:Nat):((p-1)&&&l)&&&l=(p-1)&&&l:=by rw[Nat.and_assoc,Nat.and_self]
theorem next_lt {p l:Nat}(hp:0<p):(p-1)&&&l<p:=by
 have:(p-1)&&&l<=p-1:=Nat.and_le_left;omega
inductive Gr (z:Nat->Prop):Nat->Nat->Prop
 |nil:Gr z 0 0
 |cons (p r k:Nat):z p->p≠0->p&&&r=0->Gr z r k->Gr z (p|||r) (k+1)
theorem apart_bit (h:x&&&y=0)(i:Nat):¬(x.testBit i=true/\y.testBit i=true):=fun⟨h1,h2⟩=>by
 have:=congrArg (fun n=>n.testBit i) h;simp only[Nat.testBit_and,h1,h2,Nat.zero_testBit,Bool.and_self]at this;cases this
theorem apart_of (h:∀i,¬(x.testBit i=true/\y.testBit i=true)):x&&&y=0:=by
 apply Nat.eq_of_testBit_eq;intro i;rw[Nat.testBit_and,Nat.zero_testBit];have:=h i;cases hx:x.testBit i<;>cases hy:y.testBit i<;>simp_all
theorem Gr.first {s:Nat}(h:Gr z s k)(hi:s.testBit i=true):∃p r k',s=p|||r/\p&&&r=0/\z p/\p.testBit i=true/\Gr z r k'/\k=k'+1:=by
 induction h with
 |nil=>rw[Nat.zero_testBit]at hi;cases hi
 |cons p r k hz hp hd hr ih=>
  by_cases hpi:p.testBit i=true
  .exact⟨p,r,k,rfl,hd,hz,hpi,hr,rfl⟩
  .have hri:r.testBit i=true:=by
    rw[Nat.testBit_or]at hi;cases h1:p.testBit i with
    |true=>exact absurd h1 hpi
    |false=>rw[h1]at hi;simpa using hi
   obtain⟨p',r',k',e,hd',hz',hi',hr',hk⟩:=ih hri;have hpp:∀j,¬(p.testBit j=true/\(p'|||r').testBit j=true):=fun j=>by rw[<-e];exact apart_bit hd j
   have h1:p&&&r'=0:=apart_of fun j hj=>hpp j ⟨hj.1,by rw[Nat.testBit_or,hj.2,Bool.or_true]⟩
   refine⟨p',p|||r',k'+1,?_,?_,hz',hi',.cons p r' k' hz hp h1 hr',by omega⟩
   .rw[e];apply Nat.eq_of_testBit_eq;intro j;simp only[Nat.testBit_or];cases p.testBit j<;>cases p'.testBit j<;>cases r'.testBit j<;>rfl
   .refine apart_of fun j hj=> ?_
    rw[Nat.testBit_or,Bool.or_eq_true]at hj;rcases hj.2 with h2|h2
    .exact hpp j ⟨h2,by rw[Nat.testBit_or,hj.1,Bool.true_or]⟩
    .exact apart_bit hd' j ⟨hj.1,h2⟩
structure Most (z:Nat->Prop)(s k:Nat):Prop where
 le:∀j,Gr z s j->j<=k
 is:k=0\/Gr z s k
theorem Gr.zero (h:Gr z 0 k):k=0:=by
 generalize hs:(0:Nat)=s at h;cases h with
 |nil=>rfl
 |cons p r k hz hp hd hr=>
  exfalso;have:p<=p|||r:=Nat.left_le_or;omega
theorem most_zero (z:Nat->Prop):Most z 0 0:=⟨fun j h=>by rw[h.zero];exact Nat.le_refl _,.inl rfl⟩
theorem most_step {s:Nat}(hs:s.testBit i=true)(hle:∀p r j,s=p|||r->p&&&r=0->z p->p.testBit i=true->Gr z r j->j+1<=k)(his:k=0\/∃p r j,s=p|||r/\p&&&r=0/\z p/\p≠0/\Gr z r j/\k=j+1):Most z s k:=by
 refine⟨fun j h=> ?_,?_⟩
 .obtain⟨p,r,k',e,h1,h2,h3,h4,h5⟩:=h.first hs;have:=hle p r k' e h1 h2 h3 h4;omega
 .rcases his with h|⟨p,r,j,rfl,h2,h3,h4,h5,rfl⟩
  .exact .inl h
  .exact .inr (.cons p r j h3 h4 h2 h5)
end
end LS
end Go.Proofs.YtejmkibjpaoahaaGreatDoor
end
section
namespace Go.Proofs.YtejmkibjpaoahaaGreatDoor
set_option linter.unusedSimpArgs false
set_option linter.unusedVariables false
set_option linter.defProp false
namespace LS
def msk (P:Nat->Bool):Nat->Nat
 |0=>0
 |n+1=>msk P n|||if P n then 2^n else 0
theorem msk_bit (P:Nat->Bool):∀(n i:Nat),(msk P n).testBit i=(decide (i<n)&&P i)
 |0,i=>by rw[msk,Nat.zero_testBit];simp
 |n+1,i=>by
  rw[msk,Nat.testBit_or,msk_bit P n i];have h2:(if P n then 2^n else 0).testBit i=(decide (i=n)&&P n):=by
   cases h:P n with
   |true=>
    rw[if_pos rfl,Nat.testBit_two_pow,Bool.and_true];exact decide_eq_decide.2 ⟨fun e=>e.symm,fun e=>e.symm⟩
   |false=>rw[if_neg (by decide),Nat.zero_testBit,Bool.and_false]
  rw[h2];by_cases e:i=n
  .subst e;simp
  .have e1:decide (i<n+1)=decide (i<n):=decide_eq_decide.2 ⟨fun h=>by omega,fun h=>by omega⟩;rw[e1,decide_eq_false e];simp
def zero (l:Nat->Int)(A s:Nat):Prop:=sm (fun i=>if s.testBit i then l i else 0) A=0
def opn (l:Nat->Int)(i:Nat):Bool:= !decide (l i=0)
theorem groups_of {l:Nat->Int}{A:Nat}{f:Nat->Nat}(hc:∀r,cs f A r l=0):∀rs:List Nat,rs.Nodup->(∀r,r∈rs->∃i,i<A/\opn l i=true/\f i=r)->Gr (zero l A) (msk (fun i=>opn l i&&rs.contains (f i)) A) rs.length
 |[],_,_=>by
  have:msk (fun i=>opn l i&&([]:List Nat).contains (f i)) A=0:=by
   apply Nat.eq_of_testBit_eq;intro i;rw[msk_bit,Nat.zero_testBit];simp
  rw[this];exact .nil
 |r::rs,hn,hr=>by
  obtain⟨h1,h2⟩:=List.nodup_cons.1 hn;have ih:=groups_of hc rs h2 fun q hq=>hr q (List.mem_cons_of_mem _ hq)
  have e:msk (fun i=>opn l i&&(r::rs).contains (f i)) A=msk (fun i=>opn l i&&f i==r) A|||msk (fun i=>opn l i&&rs.contains (f i)) A:=by
   apply Nat.eq_of_testBit_eq;intro i;rw[Nat.testBit_or,msk_bit,msk_bit,msk_bit,List.contains_cons];cases decide (i<A)<;>cases opn l i<;>simp
  rw[e];refine .cons _ _ _ ?_ ?_ ?_ ih
  .unfold zero;refine Eq.trans ?_ (hc r);unfold cs;refine sm_congr fun i hi=> ?_
   rw[msk_bit,decide_eq_true hi,Bool.true_and];unfold opn;by_cases h0:l i=0
   .simp[h0]
   .by_cases h3:f i=r
    .simp[h0,h3]
    .simp[h0,h3]
  .obtain⟨i,hi,ho,hf⟩:=hr r List.mem_cons_self;intro h;have:=congrArg (fun n=>n.testBit i) h;simp only[msk_bit,Nat.zero_testBit,hi,decide_true,ho,hf,beq_self_eq_true,Bool.and_self]at this;cases this
  .refine apart_of fun i hi=> ?_
   rw[msk_bit,msk_bit]at hi;simp only[Bool.and_eq_true,beq_iff_eq,List.contains_eq_mem,decide_eq_true_eq]at hi;exact h1 (hi.1.2.2▸hi.2.2.2)
def opens (l:Nat->Int)(A:Nat):Nat:=((List.range A).filter (opn l)).length
end LS
end Go.Proofs.YtejmkibjpaoahaaGreatDoor
end
section
namespace Go.Proofs.YtejmkibjpaoahaaGreatDoor
open LS
section
variable {L:Nat->Int}{n p q:Nat}
set_option linter.unusedSimpArgs false
set_option linter.unusedVariables false
def bl2 (L:Nat->Int)(n i:Nat):Int:=if i<n then L ((i+(n-1))% n)-L i else 0
structure Cyc (L:Nat->Int)(n p q:Nat):Prop where
 p0:0<p
 n0:0<n
 d:n=q*p
 c:∀i,i<n->L ((i+p)% n)=L i
theorem Cyc.le (C:Cyc L n p q){r:Nat}(hr:r<q):r*p+p<=n:=by
 rw[C.d,<-Nat.succ_mul];exact Nat.mul_le_mul_right p hr
theorem Cyc.mod {L:Nat->Int}{n p q:Nat}(C:Cyc L n p q):∀i,i<n->L i=L (i % p)
 |i,hi=>by
  by_cases h:i<p
  .rw[Nat.mod_eq_of_lt h]
  .have hp:=C.p0;have h1:=C.c (i-p) (by omega);rw[show i-p+p=i by omega,Nat.mod_eq_of_lt hi]at h1;rw[h1,Cyc.mod C (i-p) (by omega),<-Nat.mod_eq_sub_mod (by omega)]
theorem mod_mod_dvd {a:Nat}(h:n=q*p):a % n % p=a % p:=Nat.mod_mod_of_dvd a ⟨q,by rw[h,Nat.mul_comm]⟩
theorem Cyc.bl (C:Cyc L n p q){i j:Nat}(hi:i<n)(hj:j<n)(h:i % p=j % p):bl2 L n i=bl2 L n j:=by
 have e:(i+(n-1))% n % p=(j+(n-1))% n % p:=by rw[mod_mod_dvd C.d,mod_mod_dvd C.d,Nat.add_mod,h,<-Nat.add_mod]
 unfold bl2;rw[if_pos hi,if_pos hj,C.mod i hi,C.mod j hj,h,C.mod _ (Nat.mod_lt (i+(n-1)) C.n0),C.mod _ (Nat.mod_lt (j+(n-1)) C.n0),e]
theorem Cyc.sum (C:Cyc L n p q)(r:Nat){A:Nat}(hA:n<=A):cs (fun i=>i/p) A r (bl2 L n)=0:=by
 have hp:=C.p0;unfold cs;by_cases hr:r<q
 .have hle:=C.le hr;obtain⟨b,hb⟩:∃b,b=r*p:=⟨_,rfl⟩;rw[<-hb]at hle;have hdiv:∀k,k/p=r<->b<=k/\k<b+p:=fun k=>by
   rw[Nat.div_eq_iff hp,hb];constructor<;>intro h<;>omega
  have key:∀k,sm (fun i=>if i/p=r then bl2 L n i else 0) k=if k<=b then 0 else if k<=b+p then L ((b+(n-1))% n)-L (k-1)else 0:=fun k=>by
   induction k with
   |zero=>rfl
   |succ k ih=>
    rw[sm,ih];by_cases h1:k<b
    .have:¬k/p=r:=fun h=>by have:=(hdiv k).1 h;omega
     rw[if_pos (by omega),if_neg this,if_pos (by omega)];rfl
    .by_cases h2:k=b
     .subst h2;rw[if_pos (Nat.le_refl _),if_pos ((hdiv k).2 ⟨Nat.le_refl _,by omega⟩),if_neg (by omega),if_pos (by omega)];unfold bl2;rw[if_pos (by omega),Nat.add_sub_cancel];omega
     .by_cases h3:k<b+p
      .rw[if_neg (by omega),if_pos (by omega),if_pos ((hdiv k).2 ⟨by omega,h3⟩),if_neg (by omega),if_pos (by omega)];unfold bl2;rw[if_pos (by omega),show(k+(n-1))% n=k-1 by rw[show k+(n-1)=(k-1)+n by omega,Nat.add_mod_right,Nat.mod_eq_of_lt (by omega)],Nat.add_sub_cancel];omega
      .have:¬k/p=r:=fun h=>by have:=(hdiv k).1 h;omega
       rw[if_neg this,if_neg (show¬k<=b by omega),if_neg (show¬k+1<=b by omega),if_neg (show¬k+1<=b+p by omega)];split
       .have hk:k=b+p:=by omega
        have hc:=C.c ((b+(n-1))% n) (Nat.mod_lt _ C.n0);rw[Nat.mod_add_mod,show b+(n-1)+p=(b+p-1)+n by omega,Nat.add_mod_right,Nat.mod_eq_of_lt (by omega)]at hc;rw[hk,hc];omega
       .rfl
  rw[key];split
  .rfl
  .split
   .rename_i h1 h2;by_cases hA2:A=b+p
    .have hc:=C.c ((b+(n-1))% n) (Nat.mod_lt _ C.n0);rw[Nat.mod_add_mod,show b+(n-1)+p=(b+p-1)+n by omega,Nat.add_mod_right,Nat.mod_eq_of_lt (by omega)]at hc;rw[hA2,hc];omega
    .omega
   .rfl
 .refine sm_zero fun i _=> ?_
  split
  .rename_i h;unfold bl2;rw[if_neg];have h1:r*p<=i:=by rw[<-h];exact Nat.div_mul_le_self i p
   have h2:q*p<=r*p:=Nat.mul_le_mul_right p (by omega);rw[C.d];omega
  .rfl
theorem Cyc.groups {A:Nat}(C:Cyc L n p q)(hA:n<=A)(ho:∃i,i<n/\bl2 L n i≠0):Gr (zero (bl2 L n) A) (msk (LS.opn (bl2 L n)) A) q:=by
 have hp:=C.p0;have h:=groups_of (l:=bl2 L n) (A:=A) (f:=fun i=>i/p) (fun r=>C.sum r hA) (List.range q) List.nodup_range (fun r hr=>by
  rw[List.mem_range]at hr;obtain⟨i,hi,hne⟩:=ho;have hle:=C.le hr;have hm:=Nat.mod_lt i hp;refine⟨r*p+i % p,by omega,?_,?_⟩
  .have e:bl2 L n (r*p+i % p)=bl2 L n i:=C.bl (by omega) hi (by rw[Nat.add_comm,Nat.add_mul_mod_self_right,Nat.mod_mod]);unfold LS.opn;rw[e];simpa using hne
  .show(r*p+i % p)/p=r;rw[Nat.add_comm,Nat.add_mul_div_right _ _ hp,Nat.div_eq_of_lt hm,Nat.zero_add])
 rw[List.length_range]at h;have e:msk (fun i=>LS.opn (bl2 L n) i&&(List.range q).contains (i/p)) A=msk (LS.opn (bl2 L n)) A:=by
  apply Nat.eq_of_testBit_eq;intro i;rw[msk_bit,msk_bit];by_cases hi:i<n
  .have:i/p<q:=by rw[Nat.div_lt_iff_lt_mul hp,<-C.d];exact hi
   have:(List.range q).contains (i/p)=true:=by rw[List.contains_iff_mem,List.mem_range];exact this
   rw[this,Bool.and_true]
  .have:LS.opn (bl2 L n) i=false:=by unfold LS.opn bl2;rw[if_neg hi];rfl
   rw[this];rfl
 rwa[e]at h
theorem bl2_zero (hn:0<n):(∀i,i<n->bl2 L n i=0)<->∀i,i<n->L i=L 0:=by
 constructor
 .intro h i;induction i with
  |zero=>intro _;rfl
  |succ i ih=>
   intro hi;have h1:=h (i+1) hi;unfold bl2 at h1;rw[if_pos hi,show i+1+(n-1)=i+n by omega,Nat.add_mod_right,Nat.mod_eq_of_lt (by omega),ih (by omega)]at h1;omega
 .intro h i hi;unfold bl2;rw[if_pos hi,h i hi,h _ (Nat.mod_lt _ hn)];omega
theorem bl2_turn {M:Nat->Int}{s:Nat}(hn:0<n)(h:∀i,i<n->M i=L ((i+s)% n))(i:Nat)(hi:i<n):bl2 M n i=bl2 L n ((i+s)% n):=by
 unfold bl2;rw[if_pos hi,if_pos (Nat.mod_lt _ hn),h i hi,h _ (Nat.mod_lt _ hn)];congr 2;rw[Nat.mod_add_mod,Nat.mod_add_mod];congr 1;omega
end
end Go.Proofs.YtejmkibjpaoahaaGreatDoor
end
section
namespace Go.Proofs.YtejmkibjpaoahaaGreatDoor
section
variable {b:Nat}{l:List Int}{n:Nat}
set_option linter.unusedSimpArgs false
set_option linter.unusedVariables false
def Bord (l:List Int)(i b:Nat):Prop:=b<i/\∀t,t<b->l.getD t 0=l.getD (i-b+t) 0
def BV (l:List Int)(j:Nat)(v:Int):Prop:=(j=0/\v= -1)\/∃b:Nat,v=(b:Int)/\Bord l j b
def same (l:List Int):Prop:=∀t,t<l.length->l.getD t 0=l.getD 0 0
theorem Bord.down {i b':Nat}(h:Bord l i b)(h':Bord l b b'):Bord l i b':=by
 obtain⟨h1,h2⟩:=h;obtain⟨h3,h4⟩:=h';refine⟨by omega,fun t ht=> ?_⟩;rw[h4 t ht,h2 (b-b'+t) (by omega)];congr 1;omega
theorem Bord.up {i:Nat}(h:Bord l i b)(he:l.getD b 0=l.getD i 0):Bord l (i+1) (b+1):=by
 obtain⟨h1,h2⟩:=h;refine⟨by omega,fun t ht=> ?_⟩;by_cases htb:t=b
 .subst htb;rw[he];congr 1;omega
 .rw[h2 t (by omega)];congr 1;omega
theorem Bord.cyc {q:Nat}(hn:0<n)(h:Bord l n b)(hd:n=q*(n-b)):Cyc (fun j=>l.getD j 0) n (n-b) q:=by
 obtain⟨h1,h2⟩:=h;refine⟨by omega,hn,hd,fun i hi=> ?_⟩;obtain⟨p,hp⟩:∃p,p=n-b:=⟨_,rfl⟩;rw[<-hp]at hd ⊢;have step:∀t,t+p<n->l.getD (t+p) 0=l.getD t 0:=fun t ht=>by
  rw[h2 t (by omega)];congr 1;omega
 show l.getD ((i+p)% n) 0=l.getD i 0;by_cases hib:i+p<n
 .rw[Nat.mod_eq_of_lt hib];exact step i hib
 .have chain:∀m r,r+m*p<n->l.getD (r+m*p) 0=l.getD r 0:=fun m=>by
   induction m with
   |zero=>intro r _;simp
   |succ m ih=>
    intro r hr;rw[Nat.succ_mul]at hr ⊢;rw[<-Nat.add_assoc,step _ (by omega),ih r (by omega)]
  have hq:q≠0:=by intro e;rw[e,Nat.zero_mul]at hd;omega
  obtain⟨q',rfl⟩:∃q',q=q'+1:=⟨q-1,by omega⟩;rw[Nat.succ_mul]at hd;have e:(i+p)% n=i+p-n:=by rw[Nat.mod_eq_sub_mod (by omega),Nat.mod_eq_of_lt (by omega)]
  have:=chain q' (i+p-n) (by omega);rw[e,<-this];congr 1;omega
def PerQ (l:List Int)(n p:Nat):Prop:=∃q,Cyc (fun j=>l.getD j 0) n p q/\p<=n/\(same l->p=1)
theorem perQ_whole (hn:0<n)(h:same l->n=1):PerQ l n n:=
 ⟨1,⟨hn,hn,by omega,fun i hi=>by show l.getD ((i+n)% n) 0=_;rw[Nat.add_mod_right,Nat.mod_eq_of_lt hi]⟩,Nat.le_refl n,h⟩
theorem PerQ.one {p:Nat}(h:PerQ l n p)(hl:l.length=n):p=1<->∀i,i<n->bl2 (fun j=>l.getD j 0) n i=0:=by
 obtain⟨q,C,_,hs⟩:=h;rw[bl2_zero C.n0];constructor
 .intro hp i hi;have:=C.mod i hi;rw[hp,Nat.mod_one]at this;exact this
 .exact fun h=>hs fun t ht=>h t (by omega)
end
end Go.Proofs.YtejmkibjpaoahaaGreatDoor
end
section
namespace Go.Proofs.YtejmkibjpaoahaaGreatDoor
open Go Go.Proofs Go.Eng Go.Run Tab RL
set_option maxRecDepth 100000
set_option linter.unusedSimpArgs false
set_option linter.unusedVariables false
set_option linter.defProp false
set_option maxHeartbeats 2000000
set_option linter.defProp false
def YtejmkibjpaoahaaGreatDoorRPFs77:=(And.intro (And.intro (And.intro @agg29 @agg3) (And.intro @by3 (And.intro @fo212_1 @fo216_0))) (And.intro (And.intro @inf29 (And.intro @inf3 @sz29)) (And.intro @sz3 (And.intro @zero3 @Tryz.underlying29))))
theorem period429 (b:Nat)(k:Int)(a:Option Addr)(n c:Nat)(xs:List Int)(h:Eng.Heap)(H:Rd h b k a n c xs)(R:Rim k xs):
 ak Tryz.prog 77 #[.pointer (some ⟨b,0,none⟩)] h (fun v h'=>(∃p:Nat,v= .int .i64 p/\PerQ xs n p)/\Ext h h'):=by
 have hn:=H.row.len;have hL:=R.len;have hb:=H.cells
 (refine Rm Tryz.func77 rfl bod77 ?_;simp only[Tryz.ntmps77,Tryz.results77,coreS,U1,splice,Value.cells,Value.oneCell',Nat.reduceAdd,Nat.reduceSub,Nat.reduceMul,Nat.reduceLeDiff,Int.reduceEq,Nat.reduceEqDiff,YtejmkibjpaoahaaGreatDoorRPFs77])
 simp only[hb,rdC,List.flatten_replicate_singleton,coreS,Value.cells,Value.oneCell',Nat.reduceAdd,Nat.reduceSub,Nat.reduceMul,Nat.reduceLeDiff,Int.reduceEq,Nat.reduceEqDiff,YtejmkibjpaoahaaGreatDoorRPFs77];have e1:((n:Int)+1).toNat=n+1:=by omega
 have er:List.replicate (n+1) (Value.int .i64 0)=ints (List.replicate (n+1) 0):=by simp[ints]
 rw[e1,er]
 repeat (refine And.intro (by first|omega|(rw[zBS];omega)|rfl|assumption) ?_)
 refine Oy (by rw[<-er];exact jD) (by simp[aR]) fun h1 g1 u1=> ?_
 rw[MN _ _ _ (by simp[aR]),ints_set]at g1;have x1:Ext h h1:=u1.ext ((Ext.refl h).push _) (Nat.le_refl _);have hb1:=x1.get hb;simp only[hb1,rdC,coreS,Value.cells,Value.oneCell',Nat.reduceAdd,Nat.reduceSub,Nat.reduceMul,Nat.reduceLeDiff,Int.reduceEq,Nat.reduceEqDiff,YtejmkibjpaoahaaGreatDoorRPFs77];refine zAi [4,5,6,24,25,26,27,28,29,30,31,32,33,34,35,36,37,38,39,40,41,42,43,44,45,46,47,48,49,50,51,52,53,54] (fun g h'=>∃(i:Nat) (bs:List Int),i<=n/\g 24= .int .i64 i/\bs.length=n+1/\g 4= .int .i64 (bs.getD i 0)/\(∀j,j<=i->BV xs j (bs.getD j 0))/\(same xs->bs.getD i 0=(i:Int)-1)/\h'[h.size]? =some (.cells (ints bs).toArray 3)/\Ext h h') (fun g _=>match g 24 with| .int _ m=>n-m.toNat|_=>0) ⟨0,_,by omega,rfl,by simp,rfl,fun j hj=> ?_,fun _=>rfl,g1,x1⟩ ?_
 .obtain rfl:j=0:=by omega
  exact .inl ⟨rfl,rfl⟩
 rintro g h' ⟨i,bs,hi,hg,hbl,hg4,hbv,hsm,hbs,x⟩;have hb2:=x.get hb;have hrow:=H.row.ext x;simp only[hg,coreS,Value.cells,Value.oneCell',Nat.reduceAdd,Nat.reduceSub,Nat.reduceMul,Nat.reduceLeDiff,Int.reduceEq,Nat.reduceEqDiff,YtejmkibjpaoahaaGreatDoorRPFs77];refine⟨fun hlt=> ?_,fun hge=> ?_⟩
 .have hil:i<xs.length:=by omega
  have hcell:=hrow.cell hil;have hso:=hrow.isSome (by omega);simp only[hcell,hg4,coreS,Value.cells,Value.oneCell',Nat.reduceAdd,Nat.reduceSub,Nat.reduceMul,Nat.reduceLeDiff,Int.reduceEq,Nat.reduceEqDiff,YtejmkibjpaoahaaGreatDoorRPFs77];refine⟨by omega,hso,?_⟩;refine zAi [4,29,30,31,32,33,34,35,36,37,38,39,40,41,42,43,44,45,46] (fun g2 h2=>h2=h'/\∃kk:Int,g2 4= .int .i64 kk/\(kk= -1\/∃b':Nat,kk=(b':Int)/\Bord xs i b')/\(same xs->kk=(i:Int)-1)) (fun g2 _=>match g2 4 with| .int _ m=>(m+1).toNat|_=>0) ⟨rfl,_,rfl,?_,hsm⟩ ?_
  .rcases hbv i (Nat.le_refl i)with⟨_,h2⟩|h2
   .exact .inl h2
   .exact .inr h2
  rintro g2 h2 ⟨rfl,kk,hk4,hkk,hks⟩;have fin:∀{v:Int},v=kk+1->kk= -1\/(∃b':Nat,kk=(b':Int)/\Bord xs i b'/\xs.getD b' 0=xs.getD i 0)->BV xs (i+1) v:=fun hv hc=>by
   rcases hc with hc|⟨b',hc,hB,he⟩
   .exact .inr ⟨0,by omega,by omega,fun t ht=>by omega⟩
   .exact .inr ⟨b'+1,by omega,hB.up he⟩
  have rest:kk= -1\/(∃b':Nat,kk=(b':Int)/\Bord xs i b'/\xs.getD b' 0=xs.getD i 0)->0<=kk+1/\kk+1<=i:=fun hc=>by
   rcases hc with hc|⟨b',hc,hB,_⟩
   .omega
   .have:=hB.1;omega
  have hput:∀{v:Int},v=kk+1->kk= -1\/(∃b':Nat,kk=(b':Int)/\Bord xs i b'/\xs.getD b' 0=xs.getD i 0)->(bs.set (i+1) v).length=n+1/\(∀j,j<=i+1->BV xs j ((bs.set (i+1) v).getD j 0))/\(same xs->(bs.set (i+1) v).getD (i+1) 0=((i+1:Nat):Int)-1)/\(bs.set (i+1) v).getD (i+1) 0=v:=by
   intro v hv hc;have e0:(bs.set (i+1) v).getD (i+1) 0=v:=by
    rw[List.getD,List.getElem?_set,if_pos rfl,if_pos (by omega)];rfl
   refine⟨by simpa using hbl,fun j hj=> ?_,fun hs=> ?_,e0⟩
   .by_cases hji:j=i+1
    .subst hji;rw[e0];exact fin hv hc
    .have:(bs.set (i+1) v).getD j 0=bs.getD j 0:=by
      rw[List.getD,List.getElem?_set,if_neg (fun h=>hji h.symm)];rfl
     rw[this];exact hbv j (by omega)
   .rw[e0,hv,hks hs];omega
  have e5:((i:Int)+1).toNat=i+1:=by omega
  rcases hkk with rfl|⟨b',rfl,hB⟩
  .have t0:¬(0:Int)<= -1:=by decide
   simp only[hk4,hg,hb2,rdC,t0,decide_false,hbs,e5,coreS,Value.cells,Value.oneCell',Nat.reduceAdd,Nat.reduceSub,Nat.reduceMul,Nat.reduceLeDiff,Int.reduceEq,Nat.reduceEqDiff,YtejmkibjpaoahaaGreatDoorRPFs77];refine⟨by rw[zBS];omega,by rw[zBS];omega,⟨by omega,by omega⟩,rfl,?_⟩;refine Oy hbs (by rw[aR];simp;omega) fun h4 g4' u4=> ?_
   rw[MN _ _ _ (by rw[aR];omega),ints_set]at g4';obtain⟨p1,p2,p3,p4⟩:=hput rfl (.inl rfl);simp only[hg,coreS,Value.cells,Value.oneCell',Nat.reduceAdd,Nat.reduceSub,Nat.reduceMul,Nat.reduceLeDiff,Int.reduceEq,Nat.reduceEqDiff,YtejmkibjpaoahaaGreatDoorRPFs77];refine⟨by rw[zBS];omega,Zr (by kernel_rfl) ⟨i+1,_,by omega,rfl,p1,?_,p2,p3,g4',u4.ext x (Nat.le_refl _)⟩ ?_⟩
   .rw[p4];rfl
   .show n-((i:Int)+1).toNat<n-(i:Int).toNat;omega
  .have hbi:=hB.1;have t0:(0:Int)<=(b':Int):=by omega
   have hcb:=hrow.cell (j:=b') (by omega);by_cases he:xs.getD b' 0=xs.getD i 0
   .simp only[hk4,hg,hb2,rdC,t0,decide_true,hcb,he,Bool.not_true,hbs,e5,coreS,Value.cells,Value.oneCell',Nat.reduceAdd,Nat.reduceSub,Nat.reduceMul,Nat.reduceLeDiff,Int.reduceEq,Nat.reduceEqDiff,YtejmkibjpaoahaaGreatDoorRPFs77];refine⟨by omega,hso,by rw[zBS];omega,by rw[zBS];omega,⟨by omega,by omega⟩,rfl,?_⟩;refine Oy hbs (by rw[aR];simp;omega) fun h4 g4' u4=> ?_
    rw[MN _ _ _ (by rw[aR];omega),ints_set]at g4';obtain⟨p1,p2,p3,p4⟩:=hput rfl (.inr ⟨b',rfl,hB,he⟩);simp only[hg,coreS,Value.cells,Value.oneCell',Nat.reduceAdd,Nat.reduceSub,Nat.reduceMul,Nat.reduceLeDiff,Int.reduceEq,Nat.reduceEqDiff,YtejmkibjpaoahaaGreatDoorRPFs77];refine⟨by rw[zBS];omega,Zr (by kernel_rfl) ⟨i+1,_,by omega,rfl,p1,?_,p2,p3,g4',u4.ext x (Nat.le_refl _)⟩ ?_⟩
    .rw[p4];rfl
    .show n-((i:Int)+1).toNat<n-(i:Int).toNat;omega
   .have hbb:=Cn bs b' (by omega);simp only[hk4,hg,hb2,rdC,t0,decide_true,hcb,he,decide_false,Bool.not_false,hbs,hbb,Int.toNat_natCast,coreS,Value.cells,Value.oneCell',Nat.reduceAdd,Nat.reduceSub,Nat.reduceMul,Nat.reduceLeDiff,Int.reduceEq,Nat.reduceEqDiff,YtejmkibjpaoahaaGreatDoorRPFs77];refine⟨by omega,hso,by omega,rfl,Zr (by kernel_rfl) ⟨rfl,bs.getD b' 0,rfl,?_,fun hs=> ?_⟩ ?_⟩
    .rcases hbv b' (by omega)with⟨_,h2⟩|⟨b2,h2,hB2⟩
     .exact .inl h2
     .exact .inr ⟨b2,h2,hB.down hB2⟩
    .have h1:=hs b' (by omega);have h2:=hs i (by omega);exact absurd (h1.trans h2.symm) he
    .show(bs.getD b' 0+1).toNat<((b':Int)+1).toNat;rcases hbv b' (by omega)with⟨_,h2⟩|⟨b2,h2,hB2⟩
     .omega
     .have:=hB2.1;omega
 .have hin:i=n:=by omega
  subst hin;have hbb:=Cn bs i (by omega);obtain⟨b',hb',hB⟩:∃b':Nat,bs.getD i 0=(b':Int)/\Bord xs i b':=by
   rcases hbv i (Nat.le_refl i)with⟨h0,_⟩|h2
   .omega
   .exact h2
  rw[hb']at hbb;have hlt:=hB.1;have e6:(i:Int)-(b':Int)=((i-b':Nat):Int):=by omega
  have e7:(i:Int).tmod ((i-b':Nat):Int)=((i % (i-b'):Nat):Int):=by rw[Int.tmod_eq_emod_of_nonneg (by omega)];rfl
  refine zB9 (by kernel_rfl) zBp [(0,0),(1,0),(2,0),(3,0),(4,0),(5,0),(6,0),(7,0),(8,0),(9,0),(10,0),(11,0),(12,0),(13,0),(14,0),(15,0),(16,0)] (by kernel_rfl) rfl (by kernel_rfl) ?_;simp only[hb2,rdC,hbs,hbb,e6,e7,Int.toNat_natCast,coreS,Value.cells,Value.oneCell',Nat.reduceAdd,Nat.reduceSub,Nat.reduceMul,Nat.reduceLeDiff,Int.reduceEq,Nat.reduceEqDiff,drawS,YtejmkibjpaoahaaGreatDoorRPFs77]
  repeat (refine And.intro (by first|omega|(rw[zBS];omega)|rfl|assumption) ?_)
  have hone:same xs->i-b'=1:=fun hs=>by have:=hsm hs;omega
  refine⟨fun hg0=>⟨⟨i,rfl,perQ_whole (by omega) fun hs=> ?_⟩,x⟩,fun hg0=>⟨⟨i-b',rfl,i/(i-b'),hB.cyc (by omega) ?_,by omega,hone⟩,x⟩⟩
  .rw[hone hs,Nat.mod_one]at hg0;exact absurd hg0 (by decide)
  .have h0:i % (i-b')=0:=by omega
   have:=Nat.div_add_mod i (i-b');rw[h0,Nat.add_zero,Nat.mul_comm]at this;exact this.symm
theorem period322 (k:Int)(a:Option Addr)(n c:Nat)(xs:List Int)(h:Eng.Heap)(hs:eu h a n xs)(hc:n<=c)(R:Rim k xs):
 ak Tryz.prog 27 #[.int .i64 k,.slice a n c] h (fun v h'=>(∃p:Nat,v= .tuple #[.int .i64 p,.int .i64 0]/\PerQ xs n p)/\Ext h h'):=by
 (refine Rm Tryz.func27 rfl bod27 ?_;simp only[Tryz.ntmps27,Tryz.results27,coreS,U1,splice,Value.cells,Value.oneCell',Nat.reduceAdd,Nat.reduceSub,Nat.reduceMul,Nat.reduceLeDiff,Int.reduceEq,Nat.reduceEqDiff])
 refine ak.mono (open24 k a n c xs h hs hc R) ?_;rintro v h1 ⟨b,rfl,H,x1⟩;simp only[coreS,Value.cells,Value.oneCell',Nat.reduceAdd,Nat.reduceSub,Nat.reduceMul,Nat.reduceLeDiff,Int.reduceEq,Nat.reduceEqDiff];refine ak.mono (period429 b k a n c xs h1 H R) ?_;rintro v h2 ⟨⟨p,rfl,hp⟩,x2⟩;simp only[coreS,Value.cells,Value.oneCell',Nat.reduceAdd,Nat.reduceSub,Nat.reduceMul,Nat.reduceLeDiff,Int.reduceEq,Nat.reduceEqDiff];exact⟨⟨p,rfl,hp⟩,x1.trans x2⟩
end Go.Proofs.YtejmkibjpaoahaaGreatDoor
end
section
namespace Go.Proofs.YtejmkibjpaoahaaGreatDoor
open Go Go.Proofs Go.Eng Go.Run Tab RL
set_option maxRecDepth 100000
set_option linter.unusedSimpArgs false
set_option linter.unusedVariables false
set_option linter.defProp false
set_option maxHeartbeats 2000000
set_option linter.defProp false
def YtejmkibjpaoahaaGreatDoorRW2Fs26:=(And.intro (And.intro @by3 @inf3) (And.intro @sz3 (And.intro @zero3 @Tryz.underlying29)))
def YtejmkibjpaoahaaGreatDoorRW2Fs76:=(And.intro (And.intro (And.intro @agg29 (And.intro @by29 @by3)) (And.intro @fo212_1 (And.intro @fo216_0 @inf29))) (And.intro (And.intro @inf3 (And.intro @sz29 @sz3)) (And.intro @zero29 (And.intro @Tryz.underlying29 @Tryz.underlying71))))
def YtejmkibjpaoahaaGreatDoorRW2Fs133:=(And.intro (And.intro @agg29 (And.intro @by29 @inf29)) (And.intro @sz29 (And.intro @Tryz.underlying29 @Tryz.underlying71)))
theorem concat64 (b:Option Addr)(c:Nat)(a1:Option Addr)(n1 c1:Nat)(p:List Int)(a2:Option Addr)(n2 c2:Nat)(q:List Int)(h:Eng.Heap)(R:Row h b [.slice a1 n1 c1,.slice a2 n2 c2])(R1:eu h a1 n1 p)(R2:eu h a2 n2 q)(h1:0<n1)(hl:n1+n2<=900):
 ak Tryz.prog 133 #[.slice b 2 c] h (fun v h'=>(∃a cap,v= .slice a (n1+n2) cap/\eG h.size h' 3 a (n1+n2) cap (p++q))/\Ext h h'):=by
 have hc0:=R.cell (j:=0) (by simp);have hc1:=R.cell (j:=1) (by simp);have hsm:=R.isSome (by simp);simp only[List.getElem_cons_zero,List.getElem_cons_succ]at hc0 hc1
 (refine Rm Tryz.func133 rfl bod133 ?_;simp only[Tryz.ntmps133,Tryz.results133,coreS,U1,splice,Value.cells,Value.oneCell',Nat.reduceAdd,Nat.reduceSub,Nat.reduceMul,Nat.reduceLeDiff,Int.reduceEq,Nat.reduceEqDiff,YtejmkibjpaoahaaGreatDoorRW2Fs133])
 refine zAi [3,5,11,12,13,14,15,16,17,18,19,20,21,22] (fun e h'=>h'=h/\((e 11= .int .i64 0/\e 3= .int .i64 0)\/(e 11= .int .i64 1/\e 3= .int .i64 n1)\/(e 11= .int .i64 2/\e 3= .int .i64 ((n1+n2:Nat):Int)))) (fun e _=>match e 11 with| .int _ q=>2-q.toNat|_=>0) ⟨rfl,.inl ⟨rfl,rfl⟩⟩ ?_;rintro e h' ⟨rfl,⟨he,he3⟩|⟨he,he3⟩|⟨he,he3⟩⟩
 .have t0:(0:Int)<((2:Nat):Int):=by decide
  have t1:¬(0:Int)+(n1:Nat)<0:=by omega
  have t2:((0:Int)).toNat=0:=rfl;simp only[he,he3,t0,t1,t2,hc0,decide_true,decide_false,coreS,Value.cells,Value.oneCell',Nat.reduceAdd,Nat.reduceSub,Nat.reduceMul,Nat.reduceLeDiff,Int.reduceEq,Nat.reduceEqDiff,YtejmkibjpaoahaaGreatDoorRW2Fs133];refine⟨by omega,hsm,by rw[zBS];omega,by rw[zBS];omega,Zr (by kernel_rfl) ⟨rfl,.inr (.inl ⟨rfl,?_⟩)⟩ ?_⟩
  .show Value.int .i64 (0+(n1:Int))=_;rw[Int.zero_add]
  .show 2-(0+1:Int).toNat<2-(0:Int).toNat;decide
 .have t0:(1:Int)<((2:Nat):Int):=by decide
  have t1:¬((n1:Nat):Int)+(n2:Nat)<0:=by omega
  have t2:((1:Int)).toNat=1:=rfl;simp only[he,he3,t0,t1,t2,hc1,decide_true,decide_false,coreS,Value.cells,Value.oneCell',Nat.reduceAdd,Nat.reduceSub,Nat.reduceMul,Nat.reduceLeDiff,Int.reduceEq,Nat.reduceEqDiff,YtejmkibjpaoahaaGreatDoorRW2Fs133];refine⟨by omega,hsm,by rw[zBS];omega,by rw[zBS];omega,Zr (by kernel_rfl) ⟨rfl,.inr (.inr ⟨rfl,?_⟩)⟩ ?_⟩
  .show Value.int .i64 ((n1:Int)+(n2:Int))=_;congr 1
  .show 2-(1+1:Int).toNat<2-(1:Int).toNat;decide
 have t0:¬(2:Int)<((2:Nat):Int):=by decide
 simp only[he,he3,t0,decide_false,coreS,Value.cells,Value.oneCell',Nat.reduceAdd,Nat.reduceSub,Nat.reduceMul,Nat.reduceLeDiff,Int.reduceEq,Nat.reduceEqDiff,YtejmkibjpaoahaaGreatDoorRW2Fs133];refine ak.mono (grow119 (n1+n2) (by omega) (by omega) h') ?_;rintro v h1' ⟨⟨a3,c3,rfl,O3⟩,x3⟩;have s3:=x3.size;simp only[coreS,Value.cells,Value.oneCell',Nat.reduceAdd,Nat.reduceSub,Nat.reduceMul,Nat.reduceLeDiff,Int.reduceEq,Nat.reduceEqDiff,YtejmkibjpaoahaaGreatDoorRW2Fs133];refine zAi [6,8,27,28,29,30,31,32,33,34] (fun e h''=>Ext h' h''/\((e 27= .int .i64 0/\∃a4 c4,e 6= .slice a4 0 c4/\eG h'.size h'' 3 a4 0 c4 [])\/(e 27= .int .i64 1/\∃a4 c4,e 6= .slice a4 n1 c4/\eG h'.size h'' 3 a4 n1 c4 p)\/(e 27= .int .i64 2/\∃a4 c4,e 6= .slice a4 (n1+n2) c4/\eG h'.size h'' 3 a4 (n1+n2) c4 (p++q)))) (fun e _=>match e 27 with| .int _ q=>2-q.toNat|_=>0) ⟨x3,.inl ⟨rfl,a3,c3,rfl,O3⟩⟩ ?_;rintro e4 h4 ⟨x4,⟨he4,a4,c4,he6,O4⟩|⟨he4,a4,c4,he6,O4⟩|⟨he4,a4,c4,he6,O4⟩⟩
 .have u0:(0:Int)<((2:Nat):Int):=by decide
  have u2:((0:Int)).toNat=0:=rfl;have d0:=(R.ext x4).cell (j:=0) (by simp);simp only[List.getElem_cons_zero]at d0;simp only[he4,he6,u0,u2,d0,decide_true,coreS,Value.cells,Value.oneCell',Nat.reduceAdd,Nat.reduceSub,Nat.reduceMul,Nat.reduceLeDiff,Int.reduceEq,Nat.reduceEqDiff,YtejmkibjpaoahaaGreatDoorRW2Fs133];refine⟨by omega,hsm,?_⟩;refine app25 (m0:=h'.size) (len:=0) (xs:=[]) rfl rfl O4 x4.size (R1.ext x4) (by omega) fun a5 c5 h5 O5 A5=> ?_
  rw[Nat.zero_add,List.nil_append]at O5;rw[Nat.zero_add];simp only[he4,coreS,Value.cells,Value.oneCell',Nat.reduceAdd,Nat.reduceSub,Nat.reduceMul,Nat.reduceLeDiff,Int.reduceEq,Nat.reduceEqDiff,YtejmkibjpaoahaaGreatDoorRW2Fs133];refine⟨by rw[zBS];omega,Zr (by kernel_rfl) ⟨A5.extN O4 x4 (Nat.le_refl _),.inr (.inl ⟨rfl,a5,c5,rfl,O5⟩)⟩ ?_⟩;show 2-(0+1:Int).toNat<2-(0:Int).toNat;decide
 .have u0:(1:Int)<((2:Nat):Int):=by decide
  have u2:((1:Int)).toNat=1:=rfl;have d1:=(R.ext x4).cell (j:=1) (by simp);simp only[List.getElem_cons_zero,List.getElem_cons_succ]at d1;simp only[he4,he6,u0,u2,d1,decide_true,coreS,Value.cells,Value.oneCell',Nat.reduceAdd,Nat.reduceSub,Nat.reduceMul,Nat.reduceLeDiff,Int.reduceEq,Nat.reduceEqDiff,YtejmkibjpaoahaaGreatDoorRW2Fs133];refine⟨by omega,hsm,?_⟩;refine app25 (m0:=h'.size) (len:=n1) (xs:=p) rfl rfl O4 x4.size (R2.ext x4) (by omega) fun a5 c5 h5 O5 A5=> ?_
  simp only[he4,coreS,Value.cells,Value.oneCell',Nat.reduceAdd,Nat.reduceSub,Nat.reduceMul,Nat.reduceLeDiff,Int.reduceEq,Nat.reduceEqDiff,YtejmkibjpaoahaaGreatDoorRW2Fs133];refine⟨by rw[zBS];omega,Zr (by kernel_rfl) ⟨A5.extN O4 x4 (Nat.le_refl _),.inr (.inr ⟨rfl,a5,c5,rfl,O5⟩)⟩ ?_⟩;show 2-(1+1:Int).toNat<2-(1:Int).toNat;decide
 .have u0:¬(2:Int)<((2:Nat):Int):=by decide
  simp only[he4,he6,u0,decide_false,coreS,Value.cells,Value.oneCell',Nat.reduceAdd,Nat.reduceSub,Nat.reduceMul,Nat.reduceLeDiff,Int.reduceEq,Nat.reduceEqDiff,YtejmkibjpaoahaaGreatDoorRW2Fs133];exact⟨⟨a4,c4,rfl,O4⟩,x4⟩
theorem turned26 (b:Nat)(k:Int)(a:Option Addr)(n c m:Nat)(xs:List Int)(h:Eng.Heap)(H:Rd h b k a n c xs)(R:Rim k xs)(hm:m<n):
 ak Tryz.prog 76 #[.pointer (some ⟨b,0,none⟩),.int .i64 m] h (fun v h'=>Ext h h'/\GM h.size h' 3 v (rotL xs m)):=by
 have hn:=H.row.len;have hL:=R.len;have hb:=H.cells
 (refine Rm Tryz.func76 rfl bod76 ?_;simp only[Tryz.ntmps76,Tryz.results76,coreS,U1,splice,Value.cells,Value.oneCell',Nat.reduceAdd,Nat.reduceSub,Nat.reduceMul,Nat.reduceLeDiff,Int.reduceEq,Nat.reduceEqDiff,YtejmkibjpaoahaaGreatDoorRW2Fs76])
 refine zB9 (by kernel_rfl) zBp [(0,0),(1,0),(2,0),(3,0),(4,0),(5,0),(6,0),(7,0),(8,0),(9,0),(10,0),(11,0),(12,0),(13,0),(14,1),(15,1),(16,0)] (by kernel_rfl) rfl (by kernel_rfl) ?_;simp only[hb,rdC,coreS,U1,splice,Value.cells,Value.oneCell',Nat.reduceAdd,Nat.reduceSub,Nat.reduceMul,Nat.reduceLeDiff,Int.reduceEq,Nat.reduceEqDiff,drawS,YtejmkibjpaoahaaGreatDoorRW2Fs76];have e1:((n:Int)-(m:Int)).toNat=n-m:=by omega
 have e2:((m:Int)-((0:Nat):Int)).toNat=m:=by omega
 have e3:((c:Int)-(m:Int)).toNat=c-m:=by omega
 have e4:((c:Int)-((0:Nat):Int)).toNat=c:=by omega
 have e5:(if(c:Int)=((0:Nat):Int)then a else lg a 0)=a:=by rw[eltP_zero];split<;>rfl
 simp only[e1,e2,e3,e4,e5,List.length_cons,List.length_nil,coreS,U1,splice,Value.cells,Value.oneCell',Nat.reduceAdd,Nat.reduceSub,Nat.reduceMul,Nat.reduceLeDiff,Int.reduceEq,Nat.reduceEqDiff,drawS,YtejmkibjpaoahaaGreatDoorRW2Fs76];have I1:=XU (c:=c) (H.row.push (.cells #[.slice (if(c:Int)=(m:Int)then a else lg a m) (n-m) (c-m),.slice a m c] 29)) (show m<=n by omega) (Nat.le_refl n) H.cap;have I2:=intsV_take (H.row.push (.cells #[.slice (if(c:Int)=(m:Int)then a else lg a m) (n-m) (c-m),.slice a m c] 29)) m (by omega);have hc:=H.cap
 repeat (refine And.intro (by first|omega|(rw[zBS];omega)|rfl|assumption) ?_)
 refine ak.mono (concat64 _ 2 _ _ _ _ _ _ _ _ _ (Row.block jD) I1 I2 (by omega) (by omega)) ?_;rintro v h1 ⟨⟨a3,c3,rfl,O3⟩,x3⟩;simp only[Ye,coreS,Value.cells,Value.oneCell',Nat.reduceAdd,Nat.reduceSub,Nat.reduceMul,Nat.reduceLeDiff,Int.reduceEq,Nat.reduceEqDiff,drawS,YtejmkibjpaoahaaGreatDoorRW2Fs76];have e6:(xs.drop m).take (n-m)++xs.take m=rotL xs m:=by rw[List.take_of_length_le (by simp;omega)];rfl
 rw[e6]at O3;have e7:n-m+m=(rotL xs m).length:=by rw[rotL_length _ _ (by omega)];omega
 rw[e7]at O3 ⊢;exact⟨x3.zBe,a3,c3,rfl,O3.mono (by simp)⟩
theorem turn8 (k:Int)(a:Option Addr)(n c m:Nat)(xs:List Int)(h:Eng.Heap)(hs:eu h a n xs)(hc:n<=c)(R:Rim k xs)(hm:m<n):
 ak Tryz.prog 26 #[.int .i64 k,.slice a n c,.int .i64 m] h (fun v h'=>Ext h h'/\∃a2 c2,v= .tuple #[.slice a2 n c2,.int .i64 0]/\n<=c2/\eu h' a2 n (rotL xs m)):=by
 have hn:=hs.len;have hL:=R.len
 (refine Rm Tryz.func26 rfl bod26 ?_;simp only[Tryz.ntmps26,Tryz.results26,coreS,U1,splice,Value.cells,Value.oneCell',Nat.reduceAdd,Nat.reduceSub,Nat.reduceMul,Nat.reduceLeDiff,Int.reduceEq,Nat.reduceEqDiff,YtejmkibjpaoahaaGreatDoorRW2Fs26])
 refine ak.mono (open24 k a n c xs h hs hc R) ?_;rintro v h1 ⟨b,rfl,H,x1⟩;simp only[coreS,Value.cells,Value.oneCell',Nat.reduceAdd,Nat.reduceSub,Nat.reduceMul,Nat.reduceLeDiff,Int.reduceEq,Nat.reduceEqDiff,YtejmkibjpaoahaaGreatDoorRW2Fs26];refine⟨by rw[zBS];omega,?_⟩;refine ak.mono (rwithin25 0 _ _ 1 1 [(m:Int)] _ (intsV_one jD) (by omega)) ?_;rintro v h2 ⟨rfl,x2⟩;have b2:inB 0 ((n:Int)-1) [(m:Int)]=true:=by simp[inB];omega
 replace x2:=x2.zBe
 simp only[b2,Bool.not_true,coreS,Value.cells,Value.oneCell',Nat.reduceAdd,Nat.reduceSub,Nat.reduceMul,Nat.reduceLeDiff,Int.reduceEq,Nat.reduceEqDiff,YtejmkibjpaoahaaGreatDoorRW2Fs26];refine ak.mono (turned26 b k a n c m xs h2 (H.ext x2) R hm) ?_;rintro v h3 ⟨x3,a3,c3,rfl,O3⟩;simp only[coreS,Value.cells,Value.oneCell',Nat.reduceAdd,Nat.reduceSub,Nat.reduceMul,Nat.reduceLeDiff,Int.reduceEq,Nat.reduceEqDiff,YtejmkibjpaoahaaGreatDoorRW2Fs26];have e7:(rotL xs m).length=n:=by rw[rotL_length _ _ (by omega)];omega
 rw[e7]at O3 ⊢;exact⟨(x1.trans x2).trans x3,a3,c3,rfl,O3.cap,O3.ints⟩
end Go.Proofs.YtejmkibjpaoahaaGreatDoor
end
section
namespace Go.Proofs.YtejmkibjpaoahaaGreatDoor
open Go Go.Proofs Go.Eng Tab
section
variable {day:Int}{e:En}{es:List En}{f i n t:Nat}{xs:List Int}
def amt (day i:Int)(e:En):Int:=if e.d<=day then(if e.t=i then e.a else 0)-(if e.f=i then e.a else 0)else 0
def balA (es:List En)(day i:Int):Int:=(es.map (amt day i)).sum
def bals (n:Nat)(es:List En)(day:Int):List Int:=(List.range n).map fun i:Nat=>balA es day i
theorem bals_length (n:Nat)(es:List En)(day:Int):(bals n es day).length=n:=by simp[bals]
theorem bals_get (es:List En)(day:Int)(hi:i<n):(bals n es day).getD i 0=balA es day i:=by simp[bals,List.getD,hi]
theorem balA_append (es fs:List En)(day i:Int):balA (es++fs) day i=balA es day i+balA fs day i:=by simp[balA]
theorem balA_cons (e:En)(es:List En)(day i:Int):balA (e::es) day i=amt day i e+balA es day i:=by simp[balA]
theorem balA_one (e:En)(day i:Int):balA [e] day i=amt day i e:=by simp[balA]
theorem bals_nil (n:Nat)(day:Int):bals n [] day=List.replicate n 0:=by
 apply List.ext_getElem<;>simp[bals,balA]
theorem amt_bound {acc:Int}(he:okE acc e)(day i:Int): -1000<=amt day i e/\amt day i e<=1000:=by
 obtain⟨_,_,_,h1,h2⟩:=he;unfold amt;split<;>(try split)<;>(try split)<;>omega
theorem balA_bound {acc:Int}(day i:Int):∀{es:List En},(∀e∈es,okE acc e)-> -(1000*(es.length:Int))<=balA es day i/\balA es day i<=1000*(es.length:Int)
 |[],_=>by simp[balA]
 |e::es,H=>by
  have h1:=amt_bound (H e (List.mem_cons_self ..)) day i;have h2:=balA_bound day i (es:=es) fun x hx=>H x (List.mem_cons_of_mem _ hx)
  rw[balA_cons,List.length_cons]
  push_cast
  omega
theorem ext_getD {ys:List Int}(hl:xs.length=ys.length)(H:∀i<xs.length,xs.getD i 0=ys.getD i 0):xs=ys:=by
 apply List.ext_getElem hl;intro i h1 h2;have:=H i h1;simpa[List.getD,List.getElem?_eq_getElem h1,List.getElem?_eq_getElem h2]using this
theorem getD_set (xs:List Int)(i j:Nat)(v:Int):(xs.set i v).getD j 0=if i=j/\i<xs.length then v else xs.getD j 0:=by
 simp only[List.getD,List.getElem?_set];by_cases h:i=j
 .subst h;by_cases h2:i<xs.length<;>simp[h2]
 .simp[h]
def giveL (xs:List Int)(f t:Nat)(m:Int):List Int:=(xs.set f (xs.getD f 0-m)).set t ((xs.set f (xs.getD f 0-m)).getD t 0+m)
theorem giveL_length (xs:List Int)(f t:Nat)(m:Int):(giveL xs f t m).length=xs.length:=by simp[giveL]
theorem giveL_get (m:Int)(hf:f<xs.length)(ht:t<xs.length):(giveL xs f t m).getD i 0=xs.getD i 0-(if f=i then m else 0)+(if t=i then m else 0):=by
 simp only[giveL,getD_set,List.length_set];by_cases h1:t=i<;>by_cases h2:f=i<;>by_cases h3:f=t<;>simp_all<;>omega
theorem bals_skip (hd:¬e.d<=day):bals n (es++[e]) day=bals n es day:=by
 unfold bals;refine List.map_congr_left fun i _=> ?_
 rw[balA_append,balA_one,amt,if_neg hd];omega
theorem bals_give (hd:e.d<=day)(hf:e.f=f)(ht:e.t=t)(hfn:f<n)(htn:t<n):giveL (bals n es day) f t e.a=bals n (es++[e]) day:=by
 refine ext_getD (by rw[giveL_length,bals_length,bals_length]) fun i hi=> ?_
 rw[giveL_length,bals_length]at hi;rw[giveL_get _ (by rw[bals_length];exact hfn) (by rw[bals_length];exact htn),bals_get _ _ hi,bals_get _ _ hi,balA_append,balA_one,amt,if_pos hd,hf,ht];simp only[Int.ofNat_inj];omega
theorem bals_sub {m:Nat}(es:List En)(day:Int)(h:m<=n):(bals n es day).take m=bals m es day:=by
 rw[bals,<-List.map_take,List.take_range,Nat.min_eq_left h];rfl
theorem take_nextE (hi:i<es.length):es.take (i+1)=es.take i++[es[i]]:=by rw[List.take_add_one,List.getElem?_eq_getElem hi];rfl
end
end Go.Proofs.YtejmkibjpaoahaaGreatDoor
end
section
namespace Go.Proofs.YtejmkibjpaoahaaGreatDoor
open Go Go.Proofs Go.Eng Tab
set_option maxRecDepth 100000
set_option linter.unusedSimpArgs false
set_option linter.unusedVariables false
set_option maxHeartbeats 1000000
set_option linter.defProp false
def YtejmkibjpaoahaaGreatDoorB1Fs50:=(And.intro (And.intro (And.intro (And.intro @agg103 (And.intro @agg2 @agg3)) (And.intro @agg33 (And.intro @agg39 @by39))) (And.intro (And.intro @fo181_0 (And.intro @fo35_2 @fo39_0)) (And.intro (And.intro @fo39_1 @fo39_2) (And.intro @fo39_3 @inf103)))) (And.intro (And.intro (And.intro @inf2 (And.intro @inf3 @inf33)) (And.intro (And.intro @inf39 @sz103) (And.intro @sz2 @sz3))) (And.intro (And.intro @sz33 (And.intro @sz39 @zero103)) (And.intro (And.intro @zero39 @Tryz.underlying33) (And.intro @Tryz.underlying48 @Tryz.underlying103)))))
def YtejmkibjpaoahaaGreatDoorB1Fs56:=(And.intro (And.intro @agg2 @inf2) (And.intro @sz2 @Tryz.underlying103))
theorem give107 (g:Nat)(xs:List Int)(f t:Nat)(m:Int)(h:Eng.Heap)(hb:h[g]? =some (.cells (ints xs).toArray 103))(hl:xs.length=8)(hf:f<8)(ht:t<8)
 (o1:InK .i64 (xs.getD f 0-m)) (o2:InK .i64 ((xs.set f (xs.getD f 0-m)).getD t 0+m)):
 ak Tryz.prog 56 #[.pointer (some ⟨g,0,none⟩),.int .i64 f,.int .i64 t,.int .i64 m] h (fun v h'=>h'[g]? =some (.cells (ints (giveL xs f t m)).toArray 103)/\Upd h h' g):=by
 (refine Rm Tryz.func56 rfl bod56 ?_;simp only[Tryz.ntmps56,Tryz.results56,coreS,U1,splice,Value.cells,Value.oneCell',Nat.reduceAdd,Nat.reduceSub,Nat.reduceMul,Nat.reduceLeDiff,Int.reduceEq,Nat.reduceEqDiff,YtejmkibjpaoahaaGreatDoorB1Fs56])
 refine zB9 (by kernel_rfl) zBp [(0,0),(1,0),(2,0),(3,0),(4,0),(5,0),(6,0),(7,0),(8,0),(9,1)] (by kernel_rfl) rfl (by kernel_rfl) ?_;simp only[hb,Cn xs f (by omega),Int.toNat_natCast,coreS,Value.cells,Value.oneCell',Nat.reduceAdd,Nat.reduceSub,Nat.reduceMul,Nat.reduceLeDiff,Int.reduceEq,Nat.reduceEqDiff,drawS,YtejmkibjpaoahaaGreatDoorB1Fs56]
 repeat (refine And.intro (by first|omega|(rw[zBS];omega)|rfl|assumption) ?_)
 refine Oy hb (by simp[aR];omega) fun h2 g2 u2=> ?_
 rw[MN _ _ _ (by rw[aR];omega),ints_set]at g2;simp only[Ye,coreS,Value.cells,Value.oneCell',Nat.reduceAdd,Nat.reduceSub,Nat.reduceMul,Nat.reduceLeDiff,Int.reduceEq,Nat.reduceEqDiff,drawS,YtejmkibjpaoahaaGreatDoorB1Fs56];refine zB9 (by kernel_rfl) zBp [(0,0),(1,0),(2,0),(3,0),(4,0),(5,0),(6,0),(7,0),(8,0),(9,1)] (by kernel_rfl) rfl (by kernel_rfl) ?_;simp only[g2,Cn (xs.set f (xs.getD f 0-m)) t (by simp;omega),Int.toNat_natCast,Ye,coreS,Value.cells,Value.oneCell',Nat.reduceAdd,Nat.reduceSub,Nat.reduceMul,Nat.reduceLeDiff,Int.reduceEq,Nat.reduceEqDiff,drawS,YtejmkibjpaoahaaGreatDoorB1Fs56]
 repeat (refine And.intro (by first|omega|(rw[zBS];omega)|rfl|assumption) ?_)
 refine Oy g2 (by simp[aR];omega) fun h3 g3 u3=> ?_
 rw[MN _ _ _ (by simp[aR];omega),ints_set]at g3;simp only[Ye,coreS,Value.cells,Value.oneCell',Nat.reduceAdd,Nat.reduceSub,Nat.reduceMul,Nat.reduceLeDiff,Int.reduceEq,Nat.reduceEqDiff,drawS,YtejmkibjpaoahaaGreatDoorB1Fs56];exact⟨g3,u2.trans u3⟩
theorem clr37 {h:Eng.Heap}{er:Env}{ty ct:TypeId}{x:Operand}{g off n c:Nat}{cur:List Value}{K:Value->Eng.Heap->Prop}(hx:ev er x= .slice (some ⟨g,off,none⟩) n c)(hb:h[g]? =some (.cells cur.toArray ct (0,0)))(hl:off+n<=cur.length)
 (H:∀h',h'[g]? =some (.cells (splice cur off (List.replicate n (.int .i64 0))).toArray ct (0,0))->Upd h h' g->K (.tuple #[]) h'):aI Tryz.prog (.call ⟨.builtin .clear,#[x],#[48]⟩) ty er h K:=
 Xl Tryz.underlying48 zero2 hx hb hl H
theorem cpy37 {h:Eng.Heap}{er:Env}{ty ct:TypeId}{x y:Operand}{b:Option Addr}{g off n c m c2:Nat}{cur:List Value}{ys:List Int}{K:Value->Eng.Heap->Prop}(hx:ev er x= .slice (some ⟨g,off,none⟩) n c)(hy:ev er y= .slice b m c2)(hb:h[g]? =some (.cells cur.toArray ct (0,0)))(hl:off+n<=cur.length)(I:eu h b m ys)
 (H:∀h',h'[g]? =some (.cells (splice cur off (ints (ys.take n))).toArray ct (0,0))->Upd h h' g->K (.int .i64 (min m n:Nat)) h'):aI Tryz.prog (.call ⟨.builtin .copy,#[x,y],#[48,48]⟩) ty er h K:=
 Y9 Tryz.underlying48 Tryz.underlying48 inf2 sz2 hx hy hb hl I H
theorem balances79 (g0:Nat)(acc cl:Int)(a:Option Addr)(n c:Nat)(es:List En)(day:Int)(h:Eng.Heap)(hb0:h[g0]? =some (.cells #[.int .i64 acc,.int .i64 cl,.slice a n c] 181))(hr:Row h a (ensV es))(hn:n=es.length)(hl:n<=20)(hok:∀e∈es,okE acc e)(ha:acc<=8)(hne:∀e∈es,e.f≠e.t):
 ak Tryz.prog 50 #[.pointer (some ⟨g0,0,none⟩),.int .i64 day] h (fun v h'=>v= .agg (ints (bals 8 es day)).toArray/\Ext h h'):=by
 (refine Rm Tryz.func50 rfl bod50 ?_;simp only[Tryz.ntmps50,Tryz.results50,coreS,U1,splice,Value.cells,Value.oneCell',Nat.reduceAdd,Nat.reduceSub,Nat.reduceMul,Nat.reduceLeDiff,Int.reduceEq,Nat.reduceEqDiff,YtejmkibjpaoahaaGreatDoorB1Fs50])
 have e8:(((8:Nat):Int)-((0:Nat):Int)).toNat=8:=rfl;simp only[ite_self,e8];refine⟨by omega,by omega,by omega,by omega,?_⟩;have hb1:=jD (h:=h.push (.cells #[.int .i64 0,.int .i64 0,.int .i64 0,.int .i64 0,.int .i64 0,.int .i64 0,.int .i64 0,.int .i64 0] 103)) (o:= .cells #[.int .i64 0,.int .i64 0,.int .i64 0,.int .i64 0,.int .i64 0,.int .i64 0,.int .i64 0,.int .i64 0] 103);rw[Rh]at hb1;refine clr37 (cur:=[.int .i64 0,.int .i64 0,.int .i64 0,.int .i64 0,.int .i64 0,.int .i64 0,.int .i64 0,.int .i64 0]) rfl hb1 (by simp) fun h1 g1 u1=> ?_
 have x1:Ext h h1:=u1.ext (((Ext.refl h).push _).push _) (by omega);have q4:h1[h.size]? =some (.cells #[.int .i64 0,.int .i64 0,.int .i64 0,.int .i64 0,.int .i64 0,.int .i64 0,.int .i64 0,.int .i64 0] 103):=u1.get pn0 (by omega)
 replace g1:h1[h.size+1]? =some (.cells (ints (bals 8 (es.take 0) day)).toArray 103):=by rw[List.take_zero,bals_nil];exact g1
 have hb2:=x1.get hb0;simp only[hb2,coreS,Value.cells,Value.oneCell',Nat.reduceAdd,Nat.reduceSub,Nat.reduceMul,Nat.reduceLeDiff,Int.reduceEq,Nat.reduceEqDiff,YtejmkibjpaoahaaGreatDoorB1Fs50];refine zAi [7,15,16,17,18,19,20,21,22,23,24,25,26,27,28,29,30] (fun g h'=>∃i:Nat,i<=n/\g 15= .int .i64 i/\h'[h.size+1]? =some (.cells (ints (bals 8 (es.take i) day)).toArray 103)/\h'[h.size]? =some (.cells #[.int .i64 0,.int .i64 0,.int .i64 0,.int .i64 0,.int .i64 0,.int .i64 0,.int .i64 0,.int .i64 0] 103)/\Ext h h') (fun g _=>match g 15 with| .int _ m=>n-m.toNat|_=>0) ⟨0,by omega,rfl,g1,q4,x1⟩ ?_;rintro g h' ⟨i,hin,hg,hb,hq,hx⟩;have hlt:h.size+1<h'.size:=bA hb;by_cases hi:i<es.length
 .have hsm:a.isSome=true:=hr.isSome (by rw[ensV_length];omega);have hc1:=rowE (hr.ext hx) hi;have hoe:=hok _ (List.getElem_mem hi);have hfe:=hne _ (List.getElem_mem hi);obtain⟨f,hf⟩:∃f:Nat,es[i].f=f:=⟨es[i].f.toNat,by unfold okE at hoe;omega⟩;obtain⟨t,ht⟩:∃t:Nat,es[i].t=t:=⟨es[i].t.toNat,by unfold okE at hoe;omega⟩;have hf8:f<8:=by unfold okE at hoe;omega
  have ht8:t<8:=by unfold okE at hoe;omega
  have hft:f≠t:=by omega
  rw[hf,ht]at hc1;simp only[hg,hc1,coreS,Value.cells,Value.oneCell',Nat.reduceAdd,Nat.reduceSub,Nat.reduceMul,Nat.reduceLeDiff,Int.reduceEq,Nat.reduceEqDiff,YtejmkibjpaoahaaGreatDoorB1Fs50];refine⟨fun _=> ?_,fun hge=>absurd hge (by omega)⟩;refine⟨by omega,hsm,?_⟩;simp only[coreS,U1,splice,Value.cells,Value.oneCell',Nat.reduceAdd,Nat.reduceSub,Nat.reduceMul,Nat.reduceLeDiff,Int.reduceEq,Nat.reduceEqDiff,YtejmkibjpaoahaaGreatDoorB1Fs50];refine⟨fun hd=> ?_,fun hd=> ?_⟩
  .have hb':(h'.push (.cells #[.int .i64 es[i].d,.int .i64 f,.int .i64 t,.int .i64 es[i].a] 39))[h.size+1]? =some (.cells (ints (bals 8 (es.take i) day)).toArray 103):=Jy hb;have hA:∀k,-(20000:Int)<=balA (es.take i) day k/\balA (es.take i) day k<=20000:=fun k=>by
    have:=balA_bound day k (es:=es.take i) fun e he=>hok e (List.mem_of_mem_take he)
    have h2:(es.take i).length<=20:=by rw[List.length_take];omega
    omega
   have h1:=hA f;have h2:=hA t;have h3:1<=es[i].a/\es[i].a<=1000:=hoe.2.2.2;refine ak.mono (give107 (h.size+1) _ f t es[i].a _ hb' (bals_length ..) hf8 ht8 ?_ ?_) ?_
   .rw[bals_get _ _ hf8,zBS];omega
   .rw[getD_set,if_neg (by omega),bals_get _ _ ht8,zBS];omega
   .rintro v h3 ⟨g3,u3⟩;rw[bals_give hd hf ht hf8 ht8,<-take_nextE hi]at g3;simp only[coreS,Value.cells,Value.oneCell',Nat.reduceAdd,Nat.reduceSub,Nat.reduceMul,Nat.reduceLeDiff,Int.reduceEq,Nat.reduceEqDiff,YtejmkibjpaoahaaGreatDoorB1Fs50];refine⟨by rw[zBS];omega,Zr (by kernel_rfl) ⟨i+1,by omega,rfl,g3,u3.get (Jy hq) (by omega),u3.ext (hx.push _) (by omega)⟩ ?_⟩;show n-((i:Int)+1).toNat<n-(i:Int).toNat;omega
  .refine⟨by rw[zBS];omega,Zr (by kernel_rfl) ⟨i+1,by omega,rfl,?_,Jy hq,hx.push _⟩ ?_⟩
   .rw[take_nextE hi,bals_skip (by omega)];exact Jy hb
   .show n-((i:Int)+1).toNat<n-(i:Int).toNat;omega
 .obtain rfl:i=n:=by omega
  rw[List.take_of_length_le (by omega)]at hb;obtain⟨b0,b1,b2,b3,b4,b5,b6,b7,h8⟩:∃b0 b1 b2 b3 b4 b5 b6 b7:Int,bals 8 es day=[b0,b1,b2,b3,b4,b5,b6,b7]:=⟨_,_,_,_,_,_,_,_,rfl⟩
  replace hb:h'[h.size+1]? =some (.cells #[.int .i64 b0,.int .i64 b1,.int .i64 b2,.int .i64 b3,.int .i64 b4,.int .i64 b5,.int .i64 b6,.int .i64 b7] 103):=by rw[hb,h8];rfl
  simp only[hg,hb,hq,coreS,Value.cells,Value.oneCell',Nat.reduceAdd,Nat.reduceSub,Nat.reduceMul,Nat.reduceLeDiff,Int.reduceEq,Nat.reduceEqDiff,YtejmkibjpaoahaaGreatDoorB1Fs50];refine⟨fun hlt=>absurd hlt (by omega),fun _=> ?_⟩;refine Oy hq (by simp) fun h3 g3 u3=> ?_
  simp only[splice]at g3;simp only[g3,coreS,U1,splice,Value.cells,Value.oneCell',Nat.reduceAdd,Nat.reduceSub,Nat.reduceMul,Nat.reduceLeDiff,Int.reduceEq,Nat.reduceEqDiff,YtejmkibjpaoahaaGreatDoorB1Fs50];refine⟨by rw[h8];rfl,u3.ext hx (by omega)⟩
end Go.Proofs.YtejmkibjpaoahaaGreatDoor
end
section
namespace Go.Proofs.YtejmkibjpaoahaaGreatDoor
open Go Go.Proofs Go.Eng Tab
set_option maxRecDepth 100000
set_option linter.unusedSimpArgs false
set_option linter.unusedVariables false
set_option maxHeartbeats 1000000
set_option linter.defProp false
def YtejmkibjpaoahaaGreatDoorB2Fs15:=(And.intro (And.intro (And.intro (And.intro @agg103 @agg3) (And.intro @agg35 (And.intro @by2 @by3))) (And.intro (And.intro @fo35_0 @inf103) (And.intro @inf2 (And.intro @inf3 @inf35)))) (And.intro (And.intro (And.intro @sz103 @sz2) (And.intro @sz3 (And.intro @sz35 @zero103))) (And.intro (And.intro @zero2 @zero3) (And.intro @Tryz.underlying29 (And.intro @Tryz.underlying48 @Tryz.underlying103)))))
noncomputable def balsR (acc cl:Int)(es:List En)(day:Int):List Int:=if opn acc cl es [day]=0 then bals acc.toNat es day else[]
theorem balances28 (acc cl:Int)(a:Option Addr)(n c:Nat)(es:List En)(day:Int)(h:Eng.Heap)(hr:Row h a (ensV es))(hn:n=es.length)(hl:n<=1000000):
 ak Tryz.prog 15 #[.agg #[.int .i64 acc,.int .i64 cl,.slice a n c],.int .i64 day] h (fun v h'=>(∃b m k,v= .tuple #[.slice b m k,.int .i64 (opn acc cl es [day])]/\eu h' b m (balsR acc cl es day)/\m<=8)/\Ext h h'):=by
 (refine Rm Tryz.func15 rfl bod15 ?_;simp only[Tryz.ntmps15,Tryz.results15,coreS,U1,splice,Value.cells,Value.oneCell',Nat.reduceAdd,Nat.reduceSub,Nat.reduceMul,Nat.reduceLeDiff,Int.reduceEq,Nat.reduceEqDiff,YtejmkibjpaoahaaGreatDoorB2Fs15])
 refine ak.mono (open72 acc cl a n c es _ 1 1 [day] _ ((hr.push _).push _) hn hl (intsV_one pn1) (by omega)) ?_;rintro v h1 ⟨x1,H⟩;have hb1:=x1.get pn0;have y1:=x1.zBe.zBe;rcases H with⟨e0,g,rfl,hg,hsz⟩|⟨e0,rfl⟩
 .obtain⟨hc,hd⟩:=opn_ok e0;obtain⟨ha,hl2,hcl,hok,hso,hft⟩:=chk_ok hc;simp only[coreS,Value.cells,Value.oneCell',Nat.reduceAdd,Nat.reduceSub,Nat.reduceMul,Nat.reduceLeDiff,Int.reduceEq,Nat.reduceEqDiff,YtejmkibjpaoahaaGreatDoorB2Fs15];refine ak.mono (balances79 g acc cl a n c es day h1 hg (hr.ext y1) hn (by omega) hok ha.2 hft) ?_;rintro v h2 ⟨rfl,x2⟩;obtain⟨b0,b1,b2,b3,b4,b5,b6,b7,h8⟩:∃b0 b1 b2 b3 b4 b5 b6 b7:Int,bals 8 es day=[b0,b1,b2,b3,b4,b5,b6,b7]:=⟨_,_,_,_,_,_,_,_,rfl⟩;have h9:(ints (bals 8 es day)).toArray= #[.int .i64 b0,.int .i64 b1,.int .i64 b2,.int .i64 b3,.int .i64 b4,.int .i64 b5,.int .i64 b6,.int .i64 b7]:=by rw[h8];rfl
  have hb2:=x2.get hb1;rw[h9];have hlt2:=bA hb2;have hne:¬(h.size=h2.size):=by omega
  simp only[hne,if_false,hb2,coreS,U1,splice,Value.cells,Value.oneCell',Nat.reduceAdd,Nat.reduceSub,Nat.reduceMul,Nat.reduceLeDiff,Int.reduceEq,Nat.reduceEqDiff,YtejmkibjpaoahaaGreatDoorB2Fs15];obtain⟨k,rfl⟩:∃k:Nat,acc=k:=⟨acc.toNat,by omega⟩;have hk8:k<=8:=by omega
  have e8:(((8:Nat):Int)-((0:Nat):Int)).toNat=8:=rfl;simp only[ite_self,e8,Int.toNat_natCast];refine⟨by omega,by omega,by omega,by omega,by omega,by omega,by omega,by omega,?_⟩;have hI:=eu.block (xs:=bals 8 es day) (by rw[h9];exact pn0 (h:=h2) (o:= .cells #[.int .i64 b0,.int .i64 b1,.int .i64 b2,.int .i64 b3,.int .i64 b4,.int .i64 b5,.int .i64 b6,.int .i64 b7] 103) (o':= .cells (List.replicate k [Value.int .i64 0]).flatten.toArray 2));rw[bals_length]at hI;refine cpy37 rfl rfl pn1 (by simp) hI fun h3 g3 u3=> ?_
  rw[bals_sub es day hk8]at g3;have e9:splice (List.replicate k [Value.int .i64 0]).flatten 0 (ints (bals k es day))=ints (bals k es day):=by
   simp[splice,aR,bals_length]
  rw[e9]at g3;simp only[coreS,Value.cells,Value.oneCell',Nat.reduceAdd,Nat.reduceSub,Nat.reduceMul,Nat.reduceLeDiff,Int.reduceEq,Nat.reduceEqDiff,YtejmkibjpaoahaaGreatDoorB2Fs15];refine⟨⟨_,k,k,by rw[e0],?_,by omega⟩,u3.ext (((y1.trans x2).push _).push _) (by have:=x2.size;have:=y1.size;omega)⟩;rw[balsR,if_pos e0,Int.toNat_natCast];have:=eu.block g3;rwa[bals_length]at this
 .simp only[e0,decide_false,Bool.not_false,coreS,Value.cells,Value.oneCell',Nat.reduceAdd,Nat.reduceSub,Nat.reduceMul,Nat.reduceLeDiff,Int.reduceEq,Nat.reduceEqDiff,YtejmkibjpaoahaaGreatDoorB2Fs15];exact⟨⟨_,_,_,rfl,by rw[balsR,if_neg e0];exact eu.nil _,by omega⟩,y1⟩
end Go.Proofs.YtejmkibjpaoahaaGreatDoor
end
section
namespace Go.Proofs.YtejmkibjpaoahaaGreatDoor
set_option linter.unusedSimpArgs false
set_option linter.unusedVariables false
set_option linter.defProp false
namespace LS
def Pt (z:Nat->Prop):Nat->List Nat->Prop
 |s,[]=>s=0
 |s,p::ps=>∃r,s=p|||r/\p&&&r=0/\z p/\p≠0/\Pt z r ps
theorem Pt.gr {z:Nat->Prop}:∀{ps:List Nat} {s:Nat},Pt z s ps->Gr z s ps.length
 |[],s,h=>by
  have h:s=0:=h;rw[h];exact .nil
 |p::ps,s,⟨r,h1,h2,h3,h4,h5⟩=>by
  rw[h1];exact .cons p r _ h3 h4 h2 (Pt.gr h5)
theorem Pt.split {z:Nat->Prop}:∀{ps:List Nat} {s p q q':Nat},Pt z s ps->p∈ps->p=q|||q'->q&&&q'=0->z q->z q'->q≠0->q'≠0->Gr z s (ps.length+1)
 |[],_,_,_,_,_,h,_,_,_,_,_,_=>absurd h List.not_mem_nil
 |x::ps,s,p,q,q',⟨r,h1,h2,h3,h4,h5⟩,hp,e,hd,hz,hz',hq,hq'=>by
  rcases List.mem_cons.1 hp with e2|hp
  .subst e2;have hxr:=fun i=>apart_bit h2 i
   have d1:q'&&&r=0:=apart_of fun i hi=>hxr i ⟨by rw[e,Nat.testBit_or,hi.1,Bool.or_true],hi.2⟩
   have d2:q&&&(q'|||r)=0:=apart_of fun i hi=>by
    have h6:=hi.2;rw[Nat.testBit_or,Bool.or_eq_true]at h6;rcases h6 with h6|h6
    .exact apart_bit hd i ⟨hi.1,h6⟩
    .exact hxr i ⟨by rw[e,Nat.testBit_or,hi.1,Bool.true_or],h6⟩
   have:=Gr.cons q (q'|||r) _ hz hq d2 (.cons q' r _ hz' hq' d1 (Pt.gr h5));rw[h1,e,Nat.or_assoc];exact this
  .rw[h1];exact .cons x r _ h3 h4 h2 (Pt.split h5 hp e hd hz hz' hq hq')
end LS
end Go.Proofs.YtejmkibjpaoahaaGreatDoor
end
section
namespace Go.Proofs.YtejmkibjpaoahaaGreatDoor
set_option linter.unusedSimpArgs false
set_option linter.unusedVariables false
set_option linter.defProp false
namespace LS
section
variable {best i k p s:Nat}{z:Nat->Prop}
theorem or_half (x y:Nat):(x|||y)/2=x/2|||y/2:=by
 apply Nat.eq_of_testBit_eq;intro i;rw[Nat.testBit_or,Nat.testBit_div_two,Nat.testBit_div_two,Nat.testBit_div_two,Nat.testBit_or]
theorem or_low (x y:Nat):(x|||y)% 2=max (x % 2) (y % 2):=by
 have h:=Nat.testBit_or x y 0;rw[Nat.testBit_zero,Nat.testBit_zero,Nat.testBit_zero]at h;rcases Nat.mod_two_eq_zero_or_one x with hx|hx<;>rcases Nat.mod_two_eq_zero_or_one y with hy|hy<;>rcases Nat.mod_two_eq_zero_or_one (x|||y)with hz|hz<;>rw[hx,hy,hz]at h<;>rw[hx,hy,hz]<;>simp at h<;>decide
theorem or_add:∀(p r:Nat),p&&&r=0->p|||r=p+r:=fun p=>by
 induction p using Nat.strongRecOn with
 |ind p ih=>
  intro r h;by_cases h0:p=0
  .subst h0;rw[Nat.zero_or,Nat.zero_add]
  have a1:=and_half p r;have a2:=and_low p r;rw[h]at a1 a2;have b1:=or_half p r;have b2:=or_low p r;have h1:=ih (p/2) (by omega) (r/2) (by rw[<-a1]);rw[h1]at b1;have h2:p % 2=0\/r % 2=0:=by
   rcases Nat.mod_two_eq_zero_or_one p with hp|hp
   .exact .inl hp
   .rw[hp,Nat.one_mul]at a2;exact .inr a2.symm
  have h3:max (p % 2) (r % 2)=p % 2+r % 2:=by rcases h2 with h|h<;>rw[h]<;>omega
  omega
theorem part_rest (h:p&&&s=p):s=p|||(s-p)/\p&&&(s-p)=0:=by
 obtain⟨r,hr⟩:∃r,r=s^^^p:=⟨_,rfl⟩;have hb:∀i,p.testBit i=true->s.testBit i=true:=fun i hi=>by
  rw[<-h,Nat.testBit_and,Bool.and_eq_true]at hi;exact hi.2
 have h1:p&&&r=0:=apart_of fun i hi=>by
  rw[hr,Nat.testBit_xor,hb i hi.1,hi.1]at hi;exact Bool.noConfusion hi.2
 have h2:s=p|||r:=by
  apply Nat.eq_of_testBit_eq;intro i;rw[Nat.testBit_or,hr,Nat.testBit_xor];have:=hb i;cases hp:p.testBit i<;>cases hs:s.testBit i<;>simp_all
 have h3:=or_add p r h1;have h4:r=s-p:=by omega
 rw[<-h4];exact⟨h2,h1⟩
theorem rest_of {r:Nat}(h:s=p|||r)(hd:p&&&r=0):r=s-p/\p&&&s=p:=by
 have h1:=or_add p r hd;refine⟨by omega,?_⟩;apply Nat.eq_of_testBit_eq;intro i;rw[h,Nat.testBit_and,Nat.testBit_or];cases p.testBit i<;>rfl
structure Loop (z:Nat->Prop)(s i part best:Nat):Prop where
 in_:part&&&s=part
 le:∀q j,part<q->q&&&s=q->z q->q.testBit i=true->Gr z (s-q) j->j+1<=best
 is:best=0\/∃q j,q&&&s=q/\z q/\q≠0/\Gr z (s-q) j/\best=j+1
theorem Loop.start (z:Nat->Prop)(s i:Nat):Loop z s i s 0:=⟨Nat.and_self s,fun q j h hq=>by
 have:q&&&s<=s:=Nat.and_le_right;omega,.inl rfl⟩
theorem Loop.skip {part:Nat}(L:Loop z s i part best)(h0:0<part)(h:z part->part.testBit i=true->False):Loop z s i ((part-1)&&&s) best:=⟨and_sub _ _,fun q j h1 h2 h3 h4 h5=>by
 by_cases e:q=part
 .subst e;exact(h h3 h4).elim
 .by_cases h6:part<q
  .exact L.le q j h6 h2 h3 h4 h5
  .have:=next_part q part s h2 L.in_ (by omega);omega,L.is⟩
theorem Loop.take {part:Nat}(L:Loop z s i part best)(h0:0<part)(hz:z part)(hk:Most z (s-part) k)(hk2:k≠0\/Gr z (s-part) 0):Loop z s i ((part-1)&&&s) (max best (1+k)):=⟨and_sub _ _,fun q j h1 h2 h3 h4 h5=>by
 by_cases e:q=part
 .subst e;have:=hk.le j h5;omega
 .by_cases h6:part<q
  .have:=L.le q j h6 h2 h3 h4 h5;omega
  .have:=next_part q part s h2 L.in_ (by omega);omega,by
 have hg:Gr z (s-part) k:=by
  rcases hk.is with h|h
  .subst h;rcases hk2 with h|h
   .exact absurd rfl h
   .exact h
  .exact h
 rcases L.is with h|⟨q,j,a,b,c,d,e⟩
 .exact .inr ⟨part,k,L.in_,hz,by omega,hg,by omega⟩
 .by_cases hm:best<=1+k
  .exact .inr ⟨part,k,L.in_,hz,by omega,hg,by omega⟩
  .exact .inr ⟨q,j,a,b,c,d,by omega⟩⟩
theorem Loop.fin (L:Loop z s i 0 best)(hs:s.testBit i=true):Most z s best:=by
 refine most_step hs (fun p r j e hd hz hi hr=> ?_) ?_
 .obtain⟨h1,h2⟩:=rest_of e hd;rw[h1]at hr;have:p≠0:=fun e=>by rw[e,Nat.zero_testBit]at hi;cases hi
  exact L.le p j (by omega) h2 hz hi hr
 .rcases L.is with h|⟨q,j,a,b,c,d,e⟩
  .exact .inl h
  .obtain⟨h1,h2⟩:=part_rest a;exact .inr ⟨q,s-q,j,h1,h2,b,c,d,e⟩
theorem most_pos (h:Most z s k)(hz:z s)(hs:s≠0):k≠0:=by
 have h1:Gr z (s|||0) (0+1):= .cons s 0 0 hz hs (Nat.and_zero s) .nil;rw[Nat.or_zero]at h1;have:=h.le _ h1;omega
theorem sm_parts (l:Nat->Int)(A:Nat){r:Nat}(hd:p&&&r=0):sm (fun i=>if(p|||r).testBit i then l i else 0) A=sm (fun i=>if p.testBit i then l i else 0) A+sm (fun i=>if r.testBit i then l i else 0) A:=by
 rw[<-sm_add];refine sm_congr fun i _=> ?_
 have:=apart_bit hd i;rw[Nat.testBit_or];cases hp:p.testBit i<;>cases hr:r.testBit i
 .simp
 .simp
 .simp
 .exact absurd ⟨hp,hr⟩ this
theorem zero_rest {l:Nat->Int}{A:Nat}(h:p&&&s=p)(hs:zero l A s)(hp:zero l A p):zero l A (s-p):=by
 obtain⟨h1,h2⟩:=part_rest h;have h3:=sm_parts l A h2;rw[<-h1]at h3;unfold zero at *;omega
theorem most_made {l:Nat->Int}{A:Nat}(h:Most (zero l A) s k)(hz:zero l A s):k≠0\/Gr (zero l A) s 0:=by
 by_cases hs:s=0
 .rw[hs];exact .inr .nil
 .exact .inl (most_pos h hz hs)
end
end LS
end Go.Proofs.YtejmkibjpaoahaaGreatDoor
end
section
namespace Go.Proofs.YtejmkibjpaoahaaGreatDoor
set_option linter.unusedSimpArgs false
set_option linter.unusedVariables false
set_option linter.defProp false
namespace LS
section
variable {A:Nat}{f:Nat->Nat}{l:Nat->Int}{s:Nat}
def lsum (F:Nat->Int):List Nat->Int
 |[]=>0
 |x::l=>F x+lsum F l
theorem lsum_perm {F:Nat->Int}{l k:List Nat}(h:l.Perm k):lsum F l=lsum F k:=by
 induction h with
 |nil=>rfl
 |cons x _ ih=>rw[lsum,lsum,ih]
 |swap x y l=>simp only[lsum];omega
 |trans _ _ h1 h2=>exact h1.trans h2
theorem lsum_append (F:Nat->Int):∀l k:List Nat,lsum F (l++k)=lsum F l+lsum F k
 |[],k=>by simp[lsum]
 |x::l,k=>by rw[List.cons_append,lsum,lsum,lsum_append F l k];omega
theorem sm_lsum (F:Nat->Int):∀A,sm F A=lsum F (List.range A)
 |0=>rfl
 |A+1=>by rw[sm,List.range_succ,lsum_append,sm_lsum F A];simp[lsum]
theorem lsum_map (F:Nat->Int)(f:Nat->Nat):∀l:List Nat,lsum F (l.map f)=lsum (fun x=>F (f x)) l
 |[]=>rfl
 |x::l=>by rw[List.map_cons,lsum,lsum,lsum_map F f l]
theorem permN:∀{o F:List Nat},o.Nodup->(∀x,x∈o->x∈F)->F.length=o.length->o.Perm F
 |[],F,_,_,h=>by
  have:F=[]:=List.eq_nil_of_length_eq_zero (by simpa using h);rw[this]
 |x::o,F,hn,hs,h=>by
  obtain⟨h1,h2⟩:=List.nodup_cons.1 hn;have hx:=hs x List.mem_cons_self;have h3:(F.erase x).length=o.length:=by rw[List.length_erase_of_mem hx,h,List.length_cons];rfl
  have h4:=permN h2 (fun y hy=>(List.mem_erase_of_ne (fun e=>h1 (by rw[<-e];exact hy))).2 (hs y (List.mem_cons_of_mem _ hy))) h3;exact(h4.cons x).trans (List.perm_cons_erase hx).symm
structure Ren (A:Nat)(f:Nat->Nat):Prop where
 lt:∀i,i<A->f i<A
 inj:∀i k,i<A->k<A->f i=f k->i=k
theorem Ren.perm (R:Ren A f):((List.range A).map f).Perm (List.range A):=by
 refine permN ?_ (fun x hx=> ?_) (by simp)
 .rw[List.Nodup,List.pairwise_map];exact List.nodup_range.imp_of_mem fun{a b} ha hb hne e=>hne (R.inj a b (List.mem_range.1 ha) (List.mem_range.1 hb) e)
 .obtain⟨i,hi,rfl⟩:=List.mem_map.1 hx;exact List.mem_range.2 (R.lt i (List.mem_range.1 hi))
theorem Ren.sum (R:Ren A f)(F:Nat->Int):sm (fun i=>F (f i)) A=sm F A:=by
 rw[sm_lsum,sm_lsum,<-lsum_map,lsum_perm R.perm]
theorem Ren.sur (R:Ren A f){i:Nat}(hi:i<A):∃k,k<A/\f k=i:=by
 have:=(R.perm.mem_iff (a:=i)).2 (List.mem_range.2 hi);obtain⟨k,hk,e⟩:=List.mem_map.1 this;exact⟨k,List.mem_range.1 hk,e⟩
def img (f:Nat->Nat)(A s:Nat):Nat:=msk (fun j=>s.testBit (f j)) A
theorem img_bit (f:Nat->Nat)(A s i:Nat):(img f A s).testBit i=(decide (i<A)&&s.testBit (f i)):=msk_bit _ A i
theorem img_or (f:Nat->Nat)(A p r:Nat):img f A (p|||r)=img f A p|||img f A r:=by
 apply Nat.eq_of_testBit_eq;intro i;rw[Nat.testBit_or,img_bit,img_bit,img_bit,Nat.testBit_or];cases decide (i<A)<;>simp
theorem img_apart {p r:Nat}(h:p&&&r=0):img f A p&&&img f A r=0:=apart_of fun i hi=>by
 rw[img_bit,img_bit,Bool.and_eq_true,Bool.and_eq_true]at hi;exact apart_bit h (f i) ⟨hi.1.2,hi.2.2⟩
theorem img_zero (R:Ren A f)(h:zero l A s):zero (fun j=>l (f j)) A (img f A s):=by
 unfold zero at h ⊢;refine Eq.trans ?_ ((R.sum fun i=>if s.testBit i then l i else 0).trans h);refine sm_congr fun i hi=> ?_
 rw[img_bit,decide_eq_true hi,Bool.true_and]
def low (A s:Nat):Prop:=∀i,s.testBit i=true->i<A
theorem img_ne (R:Ren A f)(hl:low A s)(h:s≠0):img f A s≠0:=fun e=>by
 obtain⟨i,hi⟩:=Nat.exists_testBit_of_ne_zero h;obtain⟨k,hk,rfl⟩:=R.sur (hl i hi);have:=congrArg (fun n=>n.testBit k) e;simp only[img_bit,hk,decide_true,hi,Bool.and_self,Nat.zero_testBit]at this;cases this
theorem img_gr (R:Ren A f){k:Nat}(h:Gr (zero l A) s k)(hl:low A s):Gr (zero (fun j=>l (f j)) A) (img f A s) k:=by
 induction h with
 |nil=>
  have:img f A 0=0:=by
   apply Nat.eq_of_testBit_eq;intro i;rw[img_bit,Nat.zero_testBit,Nat.zero_testBit,Bool.and_false]
  rw[this];exact .nil
 |cons p r k hz hp hd _ ih=>
  rw[img_or];exact .cons _ _ _ (img_zero R hz) (img_ne R (fun i hi=>hl i (by rw[Nat.testBit_or,hi,Bool.true_or])) hp) (img_apart hd) (ih fun i hi=>hl i (by rw[Nat.testBit_or,hi,Bool.or_true]))
theorem img_img {g:Nat->Nat}(hg:Ren A g)(h:∀i,i<A->f (g i)=i)(hl:low A s):img g A (img f A s)=s:=by
 apply Nat.eq_of_testBit_eq;intro i;rw[img_bit];by_cases hi:i<A
 .rw[decide_eq_true hi,img_bit,decide_eq_true (hg.lt i hi),h i hi];simp
 .rw[decide_eq_false hi];cases hb:s.testBit i with
  |false=>rfl
  |true=>exact absurd (hl i hb) hi
theorem most_ren {g:Nat->Nat}{k:Nat}(hf:Ren A f)(hg:Ren A g)(h:∀i,i<A->f (g i)=i)(hl:low A s)(hm:Most (zero l A) s k):Most (zero (fun j=>l (f j)) A) (img f A s) k:=by
 refine⟨fun j hj=> ?_,?_⟩
 .have h1:=img_gr hg hj fun i hi=>by
   rw[img_bit,Bool.and_eq_true]at hi;exact of_decide_eq_true hi.1
  rw[img_img hg h hl]at h1;refine hm.le j ?_;have e:zero (fun j=>(fun j=>l (f j)) (g j)) A=zero l A:=by
   funext t;unfold zero;rw[sm_congr (g:=fun i=>if t.testBit i then l i else 0) fun i hi=>by simp only[h i hi]]
  rw[e]at h1;exact h1
 .rcases hm.is with h0|h0
  .exact .inl h0
  .exact .inr (img_gr hf h0 hl)
theorem img_open (f:Nat->Nat)(A:Nat)(hf:∀i,i<A->f i<A)(l:Nat->Int):img f A (msk (opn l) A)=msk (opn fun j=>l (f j)) A:=by
 apply Nat.eq_of_testBit_eq;intro i;rw[img_bit,msk_bit,msk_bit];by_cases hi:i<A
 .rw[decide_eq_true hi,decide_eq_true (hf i hi)];rfl
 .rw[decide_eq_false hi];rfl
theorem low_open (l:Nat->Int)(A:Nat):low A (msk (opn l) A):=fun i hi=>by
 rw[msk_bit,Bool.and_eq_true]at hi;exact of_decide_eq_true hi.1
end
end LS
end Go.Proofs.YtejmkibjpaoahaaGreatDoor
end
section
namespace Go.Proofs.YtejmkibjpaoahaaGreatDoor
set_option linter.unusedSimpArgs false
set_option linter.unusedVariables false
set_option linter.defProp false
namespace LS
theorem opens_ren {A:Nat}{f:Nat->Nat}(R:Ren A f)(l:Nat->Int):opens (fun j=>l (f j)) A=opens l A:=by
 unfold opens;rw[<-(R.perm.filter (opn l)).length_eq,List.filter_map,List.length_map];rfl
end LS
end Go.Proofs.YtejmkibjpaoahaaGreatDoor
end
