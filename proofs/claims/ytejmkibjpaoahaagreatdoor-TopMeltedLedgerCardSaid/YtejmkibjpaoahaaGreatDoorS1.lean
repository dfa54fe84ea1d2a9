/- Lemmas. No condition. -/
import Derived.Test.YtejmkibjpaoahaaGreatDoorQ1
import Derived.KernelRfl
import Derived.Test.YtejmkibjpaoahaaGreatDoorProg
import Derived.Lib.AppendZerosOnto
import Derived.Lib.Overlaps
open Go.Value renaming oneCell'→af,cells→aC,int→lN
open And renaming intro→aD
open Go.Proofs.Tryz renaming prog→aF
open List renaming getElem?_eq_getElem→aY,length_cons→aZ,length_nil→bv,take_of_length_le→bD,nil_append→bK,append_nil→bL,getElem_mem→bS,cons_append→cz,length_append→cK,drop→dG,take→dL,all_eq_true→dS,mem_singleton→fe,getD→iq,contains_eq_mem→iL,range→kD,findIdx?_eq_some_iff_getElem→kX,drop_eq_getElem_cons→lG,take_add_one→mM,mem_append→ol,take_succ_cons→pq,findIdx?_eq_none_iff→qM,getElem?_set→vk,drop_drop→wm,any_eq_false→zn,mem_range→zx,take_zero→zA,any_eq_true→zW,length_set→Dn,size_toArray→KN,getElem_of_mem→XE
open Int renaming toNat_natCast→bi,mul_le_mul_of_nonneg_right→zD,ediv_nonneg→Oe,ediv_le_self→zav,add_mul→zaE,mul_le_mul→zaO,mul_nonneg→zaP
open Bool renaming not_true→bE,not_false→bP,and_eq_true→bR,false_eq_true→kC,or_eq_true→kV,not_eq_true'→lw
open Go.Region renaming ready→eO,noSelect_spec→ko,noSelect→yR,binds→OZ,wanted→zbd
open Array renaming getElem?_eq_some_iff→eP,any_eq_true'→yQ,getElem?_push→CW,replicate→zaC
open Classical renaming not_not→mK
open Option renaming getD_some→rO,isSome_iff_exists→yC,map_some→OY
open Nat renaming add_zero→zO,mod_two_eq_zero_or_one→GL,add_assoc→Mc,add_mul→Md,mul_le_mul_right→SL
set_option linter.unusedSimpArgs false
set_option linter.unusedVariables false
set_option linter.defProp false
section
namespace Go.Proofs.YtejmkibjpaoahaaGreatDoor.Tab
open Go Go.Proofs Go.Eng
theorem sz2:szT aF 2=1:=by kernel_rfl
theorem by2:iA aF 2=8:=by kernel_rfl
theorem zP0:(Tryz.prog.info? 2).isSome=true:=by kernel_rfl
theorem zPd:zF aF 2=some false:=by kernel_rfl
theorem zQv:dJ aF 2=some (.int .i64 0):=by kernel_rfl
theorem sz3:szT aF 3=1:=by kernel_rfl
theorem by3:iA aF 3=8:=by kernel_rfl
theorem zPs:(Tryz.prog.info? 3).isSome=true:=by kernel_rfl
theorem zQL:zF aF 3=some false:=by kernel_rfl
theorem zRm:dJ aF 3=some (.int .i64 0):=by kernel_rfl
theorem sz4:szT aF 4=1:=by kernel_rfl
theorem zZc:(Tryz.prog.info? 4).isSome=true:=by kernel_rfl
theorem zZ5:zF aF 4=some false:=by kernel_rfl
theorem zZT:dJ aF 4=some (.bool false):=by kernel_rfl
theorem sz5:szT aF 5=1:=by kernel_rfl
theorem by5:iA aF 5=1:=by kernel_rfl
theorem zZd:(Tryz.prog.info? 5).isSome=true:=by kernel_rfl
theorem zZ6:zF aF 5=some false:=by kernel_rfl
theorem zZU:dJ aF 5=some (.int .u8 0):=by kernel_rfl
theorem sz9:szT aF 9=1:=by kernel_rfl
theorem by9:iA aF 9=16:=by kernel_rfl
theorem zVM:(Tryz.prog.info? 9).isSome=true:=by kernel_rfl
theorem zWz:zF aF 9=some false:=by kernel_rfl
theorem zVh:dJ aF 9=some (.string ByteArray.empty):=by kernel_rfl
theorem zZO:szT aF 29=1:=by kernel_rfl
theorem zYz:iA aF 29=24:=by kernel_rfl
theorem zWo:(Tryz.prog.info? 29).isSome=true:=by kernel_rfl
theorem zYQ:zF aF 29=some false:=by kernel_rfl
theorem zVg:dJ aF 29=some (.slice none 0 0):=by kernel_rfl
theorem zTg:szT aF 33=1:=by kernel_rfl
theorem zR8:(Tryz.prog.info? 33).isSome=true:=by kernel_rfl
theorem zRY:zF aF 33=some false:=by kernel_rfl
theorem zTh:szT aF 35=3:=by kernel_rfl
theorem zR9:(Tryz.prog.info? 35).isSome=true:=by kernel_rfl
theorem zRZ:zF aF 35=some true:=by kernel_rfl
theorem zTi:dJ aF 35=some (.agg #[.int .i64 0,.int .i64 0,.slice none 0 0]):=by kernel_rfl
theorem zVZ:jh aF 35=true:=by kernel_rfl
theorem zQb:jG aF 35 0=some 0:=by kernel_rfl
theorem zTr:mF aF 35 0=some (0,1):=by kernel_rfl
theorem zSP:jG aF 35 1=some 1:=by kernel_rfl
theorem zWC:mF aF 35 1=some (1,1):=by kernel_rfl
theorem zQc:jG aF 35 2=some 2:=by kernel_rfl
theorem zQA:szT aF 39=4:=by kernel_rfl
theorem zQi:iA aF 39=32:=by kernel_rfl
theorem zPK:(Tryz.prog.info? 39).isSome=true:=by kernel_rfl
theorem zQ4:zF aF 39=some true:=by kernel_rfl
theorem zPi:dJ aF 39=some (.agg #[.int .i64 0,.int .i64 0,.int .i64 0,.int .i64 0]):=by kernel_rfl
theorem zWq:jh aF 39=true:=by kernel_rfl
theorem zQF:jG aF 39 0=some 0:=by kernel_rfl
theorem zTs:mF aF 39 0=some (0,1):=by kernel_rfl
theorem zQN:jG aF 39 1=some 1:=by kernel_rfl
theorem zTt:mF aF 39 1=some (1,1):=by kernel_rfl
theorem zQO:jG aF 39 2=some 2:=by kernel_rfl
theorem zTu:mF aF 39 2=some (2,1):=by kernel_rfl
theorem zQz:jG aF 39 3=some 3:=by kernel_rfl
theorem zTv:mF aF 39 3=some (3,1):=by kernel_rfl
theorem zZP:szT aF 57=1:=by kernel_rfl
theorem zWp:(Tryz.prog.info? 57).isSome=true:=by kernel_rfl
theorem zWl:zF aF 57=some false:=by kernel_rfl
theorem zWs:szT aF 103=8:=by kernel_rfl
theorem zVK:(Tryz.prog.info? 103).isSome=true:=by kernel_rfl
theorem zUh:zF aF 103=some true:=by kernel_rfl
theorem zUP:dJ aF 103=some (.agg #[.int .i64 0,.int .i64 0,.int .i64 0,.int .i64 0,.int .i64 0,.int .i64 0,.int .i64 0,.int .i64 0]):=by kernel_rfl
theorem zPq:szT aF 115=2:=by kernel_rfl
theorem zUr:iA aF 115=16:=by kernel_rfl
theorem zPW:(Tryz.prog.info? 115).isSome=true:=by kernel_rfl
theorem zPc:zF aF 115=some true:=by kernel_rfl
theorem zQJ:dJ aF 115=some (.agg #[.int .i64 0,.int .i64 0]):=by kernel_rfl
theorem zRC:jh aF 115=true:=by kernel_rfl
theorem zP8:jG aF 115 0=some 0:=by kernel_rfl
theorem zQP:mF aF 115 0=some (0,1):=by kernel_rfl
theorem zP9:jG aF 115 1=some 1:=by kernel_rfl
theorem zPy:mF aF 115 1=some (1,1):=by kernel_rfl
theorem zZN:szT aF 116=1:=by kernel_rfl
theorem zXk:(Tryz.prog.info? 116).isSome=true:=by kernel_rfl
theorem zWx:zF aF 116=some false:=by kernel_rfl
theorem zWf:dJ aF 120=some (.agg #[.slice none 0 0]):=by kernel_rfl
theorem zXw:jh aF 120=true:=by kernel_rfl
theorem zVz:jG aF 120 0=some 0:=by kernel_rfl
theorem zVE:mF aF 120 0=some (0,1):=by kernel_rfl
theorem zWt:szT aF 122=16:=by kernel_rfl
theorem zVL:(Tryz.prog.info? 122).isSome=true:=by kernel_rfl
theorem zWy:zF aF 122=some true:=by kernel_rfl
theorem zWg:dJ aF 122=some (.agg #[.int .i64 0,.int .i64 0,.int .i64 0,.int .i64 0,.int .i64 0,.int .i64 0,.int .i64 0,.int .i64 0,.int .i64 0,.int .i64 0,.int .i64 0,.int .i64 0,.int .i64 0,.int .i64 0,.int .i64 0,.int .i64 0]):=by kernel_rfl
theorem zWh:dJ aF 124=some (.agg #[.slice none 0 0,.int .i64 0,.int .i64 0,.int .i64 0,.int .i64 0,.int .i64 0,.int .i64 0,.int .i64 0,.int .i64 0,.int .i64 0,.int .i64 0,.int .i64 0,.int .i64 0,.int .i64 0,.int .i64 0,.int .i64 0,.int .i64 0]):=by kernel_rfl
theorem zXx:jh aF 124=true:=by kernel_rfl
theorem zWA:jG aF 124 0=some 0:=by kernel_rfl
theorem zVF:mF aF 124 0=some (0,1):=by kernel_rfl
theorem zSO:jG aF 124 1=some 1:=by kernel_rfl
theorem zWi:dJ aF 129=some (.agg #[.pointer none,.slice none 0 0]):=by kernel_rfl
theorem zWj:dJ aF 181=some (.agg #[.int .i64 0,.int .i64 0,.slice none 0 0]):=by kernel_rfl
theorem zXy:jh aF 181=true:=by kernel_rfl
theorem zWB:jG aF 181 0=some 0:=by kernel_rfl
theorem zVG:mF aF 181 0=some (0,3):=by kernel_rfl
theorem zTO:szT aF 193=4:=by kernel_rfl
theorem zSj:iA aF 193=32:=by kernel_rfl
theorem zR7:(Tryz.prog.info? 193).isSome=true:=by kernel_rfl
theorem zSI:zF aF 193=some true:=by kernel_rfl
theorem zWk:dJ aF 193=some (.agg #[.int .i64 0,.int .i64 0,.int .i64 0,.int .i64 0]):=by kernel_rfl
theorem zQk:jG aF 193 0=some 0:=by kernel_rfl
theorem zQl:jG aF 193 1=some 2:=by kernel_rfl
theorem zZ9:qA aF 4=true:=by kernel_rfl
theorem zYW:qA aF 10=true:=by kernel_rfl
theorem zYX:qA aF 11=true:=by kernel_rfl
theorem zYY:qA aF 12=true:=by kernel_rfl
theorem zYZ:qA aF 15=true:=by kernel_rfl
theorem zY0:qA aF 19=true:=by kernel_rfl
theorem zY1:qA aF 20=true:=by kernel_rfl
theorem zY2:qA aF 21=true:=by kernel_rfl
theorem zY3:qA aF 22=true:=by kernel_rfl
theorem zY4:qA aF 23=true:=by kernel_rfl
theorem zY5:qA aF 24=true:=by kernel_rfl
theorem zY6:qA aF 39=true:=by kernel_rfl
theorem zY7:qA aF 40=true:=by kernel_rfl
theorem zY8:qA aF 41=true:=by kernel_rfl
theorem zY9:qA aF 42=true:=by kernel_rfl
theorem zYa:qA aF 43=true:=by kernel_rfl
theorem zYb:qA aF 44=true:=by kernel_rfl
theorem zYc:qA aF 45=true:=by kernel_rfl
theorem zYd:qA aF 46=true:=by kernel_rfl
theorem zYe:qA aF 47=true:=by kernel_rfl
theorem zYf:qA aF 50=true:=by kernel_rfl
theorem zYg:qA aF 56=true:=by kernel_rfl
theorem zYh:qA aF 57=true:=by kernel_rfl
theorem zYi:qA aF 58=true:=by kernel_rfl
theorem zYj:qA aF 59=true:=by kernel_rfl
theorem zYk:qA aF 60=true:=by kernel_rfl
theorem zYl:qA aF 61=true:=by kernel_rfl
theorem zYm:qA aF 62=true:=by kernel_rfl
theorem zYn:qA aF 63=true:=by kernel_rfl
theorem zYo:qA aF 65=true:=by kernel_rfl
theorem zYp:qA aF 66=true:=by kernel_rfl
theorem zYq:qA aF 68=true:=by kernel_rfl
theorem zYr:qA aF 69=true:=by kernel_rfl
theorem zYs:qA aF 70=true:=by kernel_rfl
theorem zYt:qA aF 71=true:=by kernel_rfl
theorem zYu:qA aF 72=true:=by kernel_rfl
theorem zYy:qA aF 94=true:=by kernel_rfl
theorem zXD:qA aF 100=true:=by kernel_rfl
theorem zXE:qA aF 101=true:=by kernel_rfl
theorem zXF:qA aF 102=true:=by kernel_rfl
theorem zXG:qA aF 103=true:=by kernel_rfl
theorem zXH:qA aF 104=true:=by kernel_rfl
theorem zXI:qA aF 107=true:=by kernel_rfl
theorem zXJ:qA aF 114=true:=by kernel_rfl
theorem zXK:qA aF 115=true:=by kernel_rfl
theorem zXL:qA aF 116=true:=by kernel_rfl
theorem zXM:qA aF 117=true:=by kernel_rfl
theorem zXN:qA aF 118=true:=by kernel_rfl
theorem zXO:qA aF 119=true:=by kernel_rfl
theorem zXP:qA aF 120=true:=by kernel_rfl
theorem zXQ:qA aF 124=true:=by kernel_rfl
theorem zXR:qA aF 125=true:=by kernel_rfl
theorem zXS:qA aF 127=true:=by kernel_rfl
theorem zXV:qA aF 161=true:=by kernel_rfl
theorem zXW:qA aF 170=true:=by kernel_rfl
theorem zXX:qA aF 171=true:=by kernel_rfl
theorem zXY:qA aF 172=true:=by kernel_rfl
theorem zXZ:qA aF 173=true:=by kernel_rfl
theorem zX0:qA aF 174=true:=by kernel_rfl
theorem zX1:qA aF 178=true:=by kernel_rfl
theorem zX2:qA aF 214=true:=by kernel_rfl
theorem zX3:qA aF 246=true:=by kernel_rfl
theorem zX4:qA aF 247=true:=by kernel_rfl
theorem zX5:qA aF 248=true:=by kernel_rfl
theorem zX6:qA aF 298=true:=by kernel_rfl
theorem zX7:qA aF 302=true:=by kernel_rfl
theorem zX8:qA aF 303=true:=by kernel_rfl
theorem zX9:qA aF 317=true:=by kernel_rfl
end Go.Proofs.YtejmkibjpaoahaaGreatDoor.Tab
end
section
namespace Go.Proofs.YtejmkibjpaoahaaGreatDoor.RL
set_option linter.unusedSimpArgs false
set_option linter.unusedVariables false
theorem zP5 {a b:List Int}(hl:a.length=b.length)(h:∀i,i<a.length->a.getD i 0=b.getD i 0):a=b:=by
 apply List.ext_getElem hl;intro i h1 h2;have:=h i h1;simpa[iq,aY h1,aY h2]using this
end Go.Proofs.YtejmkibjpaoahaaGreatDoor.RL
end
section
namespace Go.Proofs.YtejmkibjpaoahaaGreatDoor
open Go Go.Proofs Go.Eng Tab
set_option maxRecDepth 100000
set_option linter.unusedSimpArgs false
set_option linter.unusedVariables false
set_option maxHeartbeats 1000000
set_option linter.defProp false
def zOt:=(aD @zQL (aD @zPs @sz3))
def zO2:=(aD (aD @zQL @by3) (aD @zPs (aD @sz3 @Tryz.underlying29)))
theorem zUg (n lo hi:Int)(p q:Nat)(h:Heap)(hp:h[p]? =some (.cells #[.int .i64 lo] 3))(hq:h[q]? =some (.cells #[.int .i64 hi] 3)):
 ak aF 107 (#[]++ #[.int .i64 n]++ #[.pointer (some ⟨p,0,none⟩),.pointer (some ⟨q,0,none⟩)]) h (fun v h'=>v= .bool (decide (n<lo)||decide (hi<n))/\Ext h h'):=by
 simp only[Array.append_empty,Array.empty_append,List.append_toArray,cz,bK]
 (refine Rm Tryz.func107 rfl zXI ?_;simp only[Tryz.ntmps107,Tryz.results107,coreS,U1,splice,aC,af,Nat.reduceAdd,Nat.reduceSub,Nat.reduceMul,Nat.reduceLeDiff,Int.reduceEq,Nat.reduceEqDiff,zOt])
 simp only[hp,hq,coreS,U1,splice,aC,af,Nat.reduceAdd,Nat.reduceSub,Nat.reduceMul,Nat.reduceLeDiff,Int.reduceEq,Nat.reduceEqDiff,zOt];constructor
 .intro h1;simp[h1,Ext.refl]
 .intro h1;simp[h1,Ext.refl]
def idx (p:Int->Bool)(xs:List Int):Int:=match xs.findIdx? p with|some i=>i|none=> -1
theorem zVH {p:Int->Bool}{xs:List Int}(H:∀j<xs.length,p (xs.getD j 0)=false):idx p xs= -1:=by
 have:xs.findIdx? p=none:=by
  rw[qM];intro x hx;obtain⟨j,hj,rfl⟩:=XE hx;have:=H j hj;simpa[iq,aY hj]using this
 simp[idx,this]
theorem zVI {p:Int->Bool}{xs:List Int}{i:Nat}(hi:i<xs.length)(H:∀j<i,p (xs.getD j 0)=false)(hp:p (xs.getD i 0)=true):idx p xs=i:=by
 have:xs.findIdx? p=some i:=by
  rw[kX];refine⟨hi,by simpa[iq,aY hi]using hp,fun j hj=> ?_⟩;have hj':j<xs.length:=by omega
  have:=H j hj;simpa[iq,aY hj']using this
 simp[idx,this]
theorem zSS (a:Option Addr)(n c:Nat)(xs:List Int)(q:FuncId)(caps:Array Value)(p:Int->Bool)(h:Heap)(hs:eu h a n xs)(hl:n<=1000000)
 (hq:∀x∈xs,∀h',Ext h h'->ak aF q (#[]++ #[.int .i64 x]++caps) h' (fun v h''=>v= .bool (p x)/\Ext h' h'')):
 ak aF 161 #[.slice a n c,.func (.func q) #[] caps] h (fun v h'=>v= .int .i64 (idx p xs)/\Ext h h'):=by
 have hn:=hs.len
 (refine Rm Tryz.func161 rfl zXV ?_;simp only[Tryz.ntmps161,Tryz.results161,coreS,U1,splice,aC,af,Nat.reduceAdd,Nat.reduceSub,Nat.reduceMul,Nat.reduceLeDiff,Int.reduceEq,Nat.reduceEqDiff,zO2])
 refine zAi [4,5,8,9,10,11,12,13,14,15,16,17,18] (fun g h'=>∃i:Nat,i<=n/\g 8= .int .i64 i/\(∀j<i,p (xs.getD j 0)=false)/\Ext h h') (fun g _=>match g 8 with| .int _ m=>n-m.toNat|_=>0) ?_ ?_
 .exact⟨0,by omega,rfl,fun j hj=>by omega,Ext.refl h⟩
 .intro g h' hI;obtain⟨i,hin,hg8,hno,hx⟩:=hI;by_cases hi:i<xs.length
  .simp only[hg8,(hs.ext hx).cell hi,coreS,aC,af,Nat.reduceAdd,Nat.reduceSub,Nat.reduceMul,Nat.reduceLeDiff,Int.reduceEq,Nat.reduceEqDiff,zO2];refine⟨fun hlt=>⟨⟨by omega,by omega⟩,(hs.ext hx).isSome (by omega),?_⟩,fun hge=>absurd hge (by omega)⟩;have hmem:xs.getD i 0∈xs:=by simp[iq,aY hi]
   refine ak.mono (hq _ hmem _ hx) ?_;rintro v h2 ⟨rfl,hx2⟩;cases hp:p (xs.getD i 0)
   .simp only[coreS,aC,af,Nat.reduceAdd,Nat.reduceSub,Nat.reduceMul,Nat.reduceLeDiff,Int.reduceEq,Nat.reduceEqDiff,zO2];refine⟨by rw[zBS];omega,Zr (by kernel_rfl) ⟨i+1,by omega,rfl,?_,hx.trans hx2⟩ ?_⟩
    .intro j hj;by_cases hji:j=i
     .subst hji;exact hp
     .exact hno j (by omega)
    .show n-((i:Int)+1).toNat<n-(i:Int).toNat;omega
   .simp only[coreS,aC,af,Nat.reduceAdd,Nat.reduceSub,Nat.reduceMul,Nat.reduceLeDiff,Int.reduceEq,Nat.reduceEqDiff,zO2];exact⟨by rw[zVI hi hno hp],hx.trans hx2⟩
  .simp only[hg8,coreS,aC,af,Nat.reduceAdd,Nat.reduceSub,Nat.reduceMul,Nat.reduceLeDiff,Int.reduceEq,Nat.reduceEqDiff,zO2];refine⟨fun hlt=>absurd hlt (by omega),fun hge=> ?_⟩;exact⟨by rw[zVH fun j hj=>hno j (by omega)],hx⟩
theorem zRO (a:Option Addr)(n c:Nat)(xs:List Int)(q:FuncId)(caps:Array Value)(p:Int->Bool)(h:Heap)(hs:eu h a n xs)(hl:n<=1000000)
 (hq:∀x∈xs,∀h',Ext h h'->ak aF q (#[]++ #[.int .i64 x]++caps) h' (fun v h''=>v= .bool (p x)/\Ext h' h'')):
 ak aF 94 #[.slice a n c,.func (.func q) #[] caps] h (fun v h'=>v= .bool (xs.any p)/\Ext h h'):=by
 (refine Rm Tryz.func94 rfl zYy ?_;simp only[Tryz.ntmps94,Tryz.results94,coreS,U1,splice,aC,af,Nat.reduceAdd,Nat.reduceSub,Nat.reduceMul,Nat.reduceLeDiff,Int.reduceEq,Nat.reduceEqDiff])
 refine ak.mono (zSS a n c xs q caps p h hs hl hq) ?_;rintro v h2 ⟨rfl,hx⟩;simp only[coreS,aC,af,Nat.reduceAdd,Nat.reduceSub,Nat.reduceMul,Nat.reduceLeDiff,Int.reduceEq,Nat.reduceEqDiff];refine⟨?_,hx⟩;congr 1;unfold idx;cases hf:xs.findIdx? p with
 |none=>
  rw[qM]at hf;have:xs.any p=false:=by rw[zn];intro x hx;simp[hf x hx]
  simp[this]
 |some i=>
  rw[kX]at hf;obtain⟨hi,hp,_⟩:=hf;have:xs.any p=true:=by rw[zW];exact⟨xs[i],bS hi,hp⟩
  simp[this]
def inB (lo hi:Int)(xs:List Int):Bool:=xs.all fun x=>decide (lo<=x)&&decide (x<=hi)
theorem zPh (lo hi:Int)(a:Option Addr)(n c:Nat)(xs:List Int)(h:Heap)(hs:eu h a n xs)(hl:n<=1000000):
 ak aF 47 #[.int .i64 lo,.int .i64 hi,.slice a n c] h (fun v h'=>v= .bool (inB lo hi xs)/\Ext h h'):=by
 (refine Rm Tryz.func47 rfl zYe ?_;simp only[Tryz.ntmps47,Tryz.results47,coreS,U1,splice,aC,af,Nat.reduceAdd,Nat.reduceSub,Nat.reduceMul,Nat.reduceLeDiff,Int.reduceEq,Nat.reduceEqDiff])
 refine ak.mono (zRO a n c xs 107 _ (fun x=>decide (x<lo)||decide (hi<x)) _ ((hs.push _).push _) hl ?_) ?_
 .intro x _ h' hx;exact zUg x lo hi _ _ h' (hx.get (by simp only[uo,Rh,Nat.left_eq_add,Nat.succ_ne_self,if_false,if_true])) (hx.get (by simp only[uo,Rh,if_true]))
 .rintro v h2 ⟨rfl,hx⟩;simp only[coreS,aC,af,Nat.reduceAdd,Nat.reduceSub,Nat.reduceMul,Nat.reduceLeDiff,Int.reduceEq,Nat.reduceEqDiff];refine⟨?_,hx.zBe.zBe⟩;congr 1;simp only[inB,List.not_any_eq_all_not];congr 1;funext x;by_cases h1:x<lo<;>by_cases h2:hi<x<;>simp[h1,h2,Int.not_lt.1,Int.not_le]<;>omega
end Go.Proofs.YtejmkibjpaoahaaGreatDoor
end
section
namespace Go.Proofs.YtejmkibjpaoahaaGreatDoor
open Go Go.Proofs Go.Eng Tab
section
variable {h:Eng.Heap}{x:Int}
set_option maxRecDepth 100000
set_option linter.unusedSimpArgs false
set_option linter.unusedVariables false
set_option maxHeartbeats 1000000
set_option linter.defProp false
def zOU:=(aD (aD (aD @zPd (aD @zQL @by3)) (aD @zQF (aD @zQN @zQO))) (aD (aD @zQz (aD @zP0 @zPs)) (aD (aD @sz2 @sz3) (aD @zRm @Tryz.underlying29))))
def zO4:=(aD (aD @zQ4 @zQi) (aD @zPK (aD @zQA @Tryz.underlying33)))
def zPY:=(aD (aD (aD @zPd @zQL) (aD @zQF (aD @zQN @zQO))) (aD (aD @zQz @zP0) (aD @zPs (aD @sz2 @sz3))))
def zOl:=(aD (aD @zQL (aD @zQ4 @zQb)) (aD (aD @zPs @zPK) (aD @sz3 @zQA)))
def zPQ:=(aD (aD @zQL @zQF) (aD @zPs @sz3))
def zOJ:=(aD (aD @zQ4 @zQi) (aD @zPK (aD @zQA @Tryz.underlying33)))
def zPR:=(aD (aD @zQL @zQN) (aD @zQO (aD @zPs @sz3)))
theorem zPN {b:Nat}{ct:TypeId}{fr:Nat×Nat}(hb:h[b]? =some (.cells #[.int .i64 x] ct fr)):eu h (some ⟨b,0,none⟩) 1 [x]:=eu.block (xs:=[x]) hb
theorem pn1 {o o':Obj}:((h.push o).push o')[h.size+1]? =some o':=by rw[CW,if_pos (by simp)]
theorem pn0 {o o':Obj}:((h.push o).push o')[h.size]? =some o:=by rw[CW,if_neg (by simp)];exact jD
theorem zQX {b:Nat}{y:Int}{ct:TypeId}{fr:Nat×Nat}(hb:h[b]? =some (.cells #[.int .i64 x,.int .i64 y] ct fr)):eu h (some ⟨b,0,none⟩) 2 [x,y]:=eu.block (xs:=[x,y]) hb
theorem zPI {lo hi:Int}:inB lo hi [x]=decide (lo<=x/\x<=hi):=by simp[inB]
theorem zSR {lo hi y:Int}:inB lo hi [x,y]=decide ((lo<=x/\x<=hi)/\lo<=y/\y<=hi):=by simp[inB]
structure En where
 d:Int
 f:Int
 t:Int
 a:Int
 deriving DecidableEq
def enV (e:En):List Value:=[.int .i64 e.d,.int .i64 e.f,.int .i64 e.t,.int .i64 e.a]
def zOS (es:List En):List Value:=es.flatMap enV
theorem zQV (e:En)(es:List En):zOS (e::es)=enV e++zOS es:=rfl
theorem zPk (es fs:List En):zOS (es++fs)=zOS es++zOS fs:=by simp[zOS]
theorem zOI (es:List En):(zOS es).length=es.length*4:=by
 induction es with
 |nil=>rfl
 |cons e es ih=>rw[zQV,cK,ih];simp[enV];omega
theorem zRs:∀(es:List En) (j:Nat),(zOS es).drop (j*4)=zOS (es.drop j)
 |es,0=>by simp
 |[],j+1=>by simp[zOS]
 |e::es,j+1=>by
  have e1:(j+1)*4=4+j*4:=by omega
  rw[zQV,e1,<-wm];have:(enV e++zOS es).drop 4=zOS es:=by simp[enV]
  rw[this,zRs es j];rfl
theorem zQy:∀(es:List En) (j:Nat),(zOS es).take (j*4)=zOS (es.take j)
 |es,0=>by simp[zOS]
 |[],j+1=>by simp[zOS]
 |e::es,j+1=>by
  have e1:(j+1)*4=4+j*4:=by omega
  rw[zQV,e1,List.take_add];have h1:(enV e++zOS es).take 4=enV e:=by simp[enV]
  have h2:(enV e++zOS es).drop 4=zOS es:=by simp[enV]
  rw[h1,h2,zQy es j];rfl
theorem zQj (es:List En)(j:Nat)(hj:j<es.length):((zOS es).drop (j*4)).take 4=enV es[j]:=by
 have h1:((zOS es).drop (j*4)).take (1*4)=zOS ((es.drop j).take 1):=by rw[zRs,zQy]
 rw[Nat.one_mul]at h1;rw[h1,lG hj];simp only[pq,zA,zOS,List.flatMap_cons,List.flatMap_nil,bL]
theorem zTo (es:List En)(j k:Nat)(hj:j<es.length)(hk:k<4):(zOS es)[j*4+k]? =(enV es[j])[k]? :=by
 have h:=zQj es j hj;have:(((zOS es).drop (j*4)).take 4)[k]? =(enV es[j])[k]? :=by rw[h]
 rwa[List.getElem?_take,if_pos hk,List.getElem?_drop]at this
def okE (acc:Int)(e:En):Prop:=(1<=e.d/\e.d<=30)/\(0<=e.f/\e.f<acc)/\(0<=e.t/\e.t<acc)/\(1<=e.a/\e.a<=1000)
instance (acc:Int)(e:En):Decidable (okE acc e):=by unfold okE;infer_instance
theorem zUM (acc:Int)(e:En)(h:Eng.Heap)(ha: -9223372036854775808<acc/\acc<=9223372036854775807):
 ak aF 40 #[.int .i64 acc,.agg #[.int .i64 e.d,.int .i64 e.f,.int .i64 e.t,.int .i64 e.a]] h (fun v h'=>v= .bool (!decide (okE acc e))/\Ext h h'):=by
 (refine Rm Tryz.func40 rfl zY7 ?_;simp only[Tryz.ntmps40,Tryz.results40,coreS,U1,splice,aC,af,Nat.reduceAdd,Nat.reduceSub,Nat.reduceMul,Nat.reduceLeDiff,Int.reduceEq,Nat.reduceEqDiff,zOU])
 refine ak.mono (zPh 1 30 _ 1 1 [e.d] _ (zPN pn1) (by omega)) ?_;rintro v h1 ⟨rfl,x1⟩;have hb1:=x1.get pn0;have y1:=x1.zBe.zBe;by_cases hd:1<=e.d/\e.d<=30
 .simp only[zPI,hd,hb1,and_self,decide_true,bE,splice,coreS,aC,af,Nat.reduceAdd,Nat.reduceSub,Nat.reduceMul,Nat.reduceLeDiff,Int.reduceEq,Nat.reduceEqDiff,zOU];refine⟨by rw[zBS];omega,?_⟩;refine ak.mono (zPh 0 (acc-1) _ 2 2 [e.f,e.t] _ (zQX jD) (by omega)) ?_;rintro v h2 ⟨rfl,x2⟩;have hb2:=(x2.zBe).get hb1;have y2:=y1.trans x2.zBe;by_cases hf:(0<=e.f/\e.f<=acc-1)/\0<=e.t/\e.t<=acc-1
  .have hok:decide (okE acc e)=(decide (1<=e.a)&&decide (e.a<=1000)):=by
    rw[<-Bool.decide_and];refine decide_eq_decide.2 ?_;unfold okE;omega
   by_cases ha1:e.a<1
   .have ha2:¬1<=e.a:=by omega
    simp only[zSR,hf,hb2,ha1,ha2,hok,and_self,decide_true,decide_false,bE,bP,Bool.false_and,coreS,aC,af,Nat.reduceAdd,Nat.reduceSub,Nat.reduceMul,Nat.reduceLeDiff,Int.reduceEq,Nat.reduceEqDiff,zOU];exact y2
   .have ha2:1<=e.a:=by omega
    have ha3:decide (1000<e.a)= !decide (e.a<=1000):=by by_cases h1:e.a<=1000<;>simp[h1]<;>omega
    simp only[zSR,hf,hb2,ha1,ha2,hok,ha3,and_self,decide_true,decide_false,bE,bP,Bool.true_and,coreS,aC,af,Nat.reduceAdd,Nat.reduceSub,Nat.reduceMul,Nat.reduceLeDiff,Int.reduceEq,Nat.reduceEqDiff,zOU];exact y2
  .have hok:¬okE acc e:=by unfold okE;omega
   simp only[zSR,hf,hok,decide_false,bP,coreS,aC,af,Nat.reduceAdd,Nat.reduceSub,Nat.reduceMul,Nat.reduceLeDiff,Int.reduceEq,Nat.reduceEqDiff,zOU];exact y2
 .have hok:¬okE acc e:=by unfold okE;omega
  simp only[zPI,hd,hok,decide_false,bP,coreS,aC,af,Nat.reduceAdd,Nat.reduceSub,Nat.reduceMul,Nat.reduceLeDiff,Int.reduceEq,Nat.reduceEqDiff,zOU];exact y1
theorem zU4 (acc:Int)(e:En)(h:Eng.Heap):
 ak aF 45 #[.int .i64 acc,.agg #[.int .i64 e.d,.int .i64 e.f,.int .i64 e.t,.int .i64 e.a]] h (fun v h'=>v= .int .i64 (if okE acc e then 0 else 3)/\Ext h h'):=by
 (refine Rm Tryz.func45 rfl zYc ?_;simp only[Tryz.ntmps45,Tryz.results45,coreS,U1,splice,aC,af,Nat.reduceAdd,Nat.reduceSub,Nat.reduceMul,Nat.reduceLeDiff,Int.reduceEq,Nat.reduceEqDiff,zPY])
 have y:Ext h (h.push (.cells #[.int .i64 e.d,.int .i64 e.f,.int .i64 e.t,.int .i64 e.a] 39)):=(Ext.refl h).push _;refine⟨fun h1=> ?_,fun h1=>⟨fun h2=> ?_,fun h2=>⟨fun h3=> ?_,fun h3=>⟨fun h4=> ?_,fun h4=>⟨fun h5=> ?_,fun h5=>⟨fun h6=> ?_,fun h6=>⟨fun h7=> ?_,fun h7=>⟨fun h8=> ?_,fun h8=> ?_⟩⟩⟩⟩⟩⟩⟩⟩
 all_goals refine⟨?_,y⟩
 case refine_9=>rw[if_pos (by unfold okE;omega)]
 all_goals rw[if_neg (by unfold okE;omega)]
theorem zUT (acc cl:Int)(sl:Value)(e:En)(b:Nat)(h:Eng.Heap)(hb:h[b]? =some (.cells #[.int .i64 acc,.int .i64 cl,sl] 35))(ha: -9223372036854775808<acc/\acc<=9223372036854775807):
 ak aF 100 #[.agg #[.int .i64 e.d,.int .i64 e.f,.int .i64 e.t,.int .i64 e.a],.pointer (some ⟨b,0,none⟩)] h (fun v h'=>v= .bool (!decide (okE acc e))/\Ext h h'):=by
 (refine Rm Tryz.func100 rfl zXD ?_;simp only[Tryz.ntmps100,Tryz.results100,coreS,U1,splice,aC,af,Nat.reduceAdd,Nat.reduceSub,Nat.reduceMul,Nat.reduceLeDiff,Int.reduceEq,Nat.reduceEqDiff,zOl])
 have hne:¬(b=h.size):=by have:=bA hb;omega
 simp only[hne,hb,if_false,coreS,aC,af,Nat.reduceAdd,Nat.reduceSub,Nat.reduceMul,Nat.reduceLeDiff,Int.reduceEq,Nat.reduceEqDiff,zOl];refine ak.mono (zUM acc e _ ha) ?_;rintro v h1 ⟨rfl,x1⟩;simp only[coreS,aC,af,Nat.reduceAdd,Nat.reduceSub,Nat.reduceMul,Nat.reduceLeDiff,Int.reduceEq,Nat.reduceEqDiff,zOl];exact x1.zBe
theorem zUU (x y:En)(h:Eng.Heap)(hd:InK .i64 (x.d-y.d)):
 ak aF 101 #[.agg #[.int .i64 x.d,.int .i64 x.f,.int .i64 x.t,.int .i64 x.a],.agg #[.int .i64 y.d,.int .i64 y.f,.int .i64 y.t,.int .i64 y.a]] h (fun v h'=>v= .int .i64 (x.d-y.d)/\Ext h h'):=by
 (refine Rm Tryz.func101 rfl zXE ?_;simp only[Tryz.ntmps101,Tryz.results101,coreS,U1,splice,aC,af,Nat.reduceAdd,Nat.reduceSub,Nat.reduceMul,Nat.reduceLeDiff,Int.reduceEq,Nat.reduceEqDiff,zPQ])
 exact⟨hd,((Ext.refl h).push _).push _⟩
theorem zUV (e:En)(h:Eng.Heap):
 ak aF 104 #[.agg #[.int .i64 e.d,.int .i64 e.f,.int .i64 e.t,.int .i64 e.a]] h (fun v h'=>v= .bool (decide (e.f=e.t))/\Ext h h'):=by
 (refine Rm Tryz.func104 rfl zXH ?_;simp only[Tryz.ntmps104,Tryz.results104,coreS,U1,splice,aC,af,Nat.reduceAdd,Nat.reduceSub,Nat.reduceMul,Nat.reduceLeDiff,Int.reduceEq,Nat.reduceEqDiff,zPR])
 exact(Ext.refl h).push _
def zSs (p:En->Bool)(es:List En):Int:=match es.findIdx? p with|some i=>i|none=> -1
theorem zU1 {p:En->Bool}{es:List En}(H:∀e∈es,p e=false):zSs p es= -1:=by
 have:es.findIdx? p=none:=by rw[qM];exact fun x hx=>by simp[H x hx]
 simp[zSs,this]
theorem zU2 {p:En->Bool}{es:List En}{i:Nat}(hi:i<es.length)(H:∀e∈es.take i,p e=false)(hp:p es[i]=true):zSs p es=i:=by
 have:es.findIdx? p=some i:=by
  rw[kX];refine⟨hi,hp,fun j hj=> ?_⟩;have hj':j<es.length:=by omega
  have:=H es[j] (by rw[List.mem_take_iff_getElem];exact⟨j,by omega,rfl⟩);simp[this]
 simp[zSs,this]
theorem zRJ (a:Option Addr)(n c:Nat)(es:List En)(q:FuncId)(caps:Array Value)(p:En->Bool)(h:Eng.Heap)(hr:Row h a (zOS es))(hn:n=es.length)(hl:n<=1000000)
 (hq:∀e∈es,∀h',Ext h h'->ak aF q (#[]++ #[.agg #[.int .i64 e.d,.int .i64 e.f,.int .i64 e.t,.int .i64 e.a]]++caps) h' (fun v h''=>v= .bool (p e)/\Ext h' h'')):
 ak aF 41 #[.slice a n c,.func (.func q) #[] caps] h (fun v h'=>v= .int .i64 (zSs p es)/\Ext h h'):=by
 (refine Rm Tryz.func41 rfl zY8 ?_;simp only[Tryz.ntmps41,Tryz.results41,coreS,U1,splice,aC,af,Nat.reduceAdd,Nat.reduceSub,Nat.reduceMul,Nat.reduceLeDiff,Int.reduceEq,Nat.reduceEqDiff,zO4])
 refine zAi [4,5,8,9,10,11,12,13,14,15,16,17,18] (fun g h'=>∃i:Nat,i<=n/\g 8= .int .i64 i/\(∀e∈es.take i,p e=false)/\Ext h h') (fun g _=>match g 8 with| .int _ m=>n-m.toNat|_=>0) ?_ ?_
 .exact⟨0,by omega,rfl,by simp,Ext.refl h⟩
 .rintro g h' ⟨i,hin,hg8,hno,hx⟩;by_cases hi:i<es.length
  .have hsm:a.isSome=true:=hr.isSome (by rw[zOI];omega);have hc1:gm h' (lg a (i*4)) 4=some [.int .i64 es[i].d,.int .i64 es[i].f,.int .i64 es[i].t,.int .i64 es[i].a]:=by
    have:=(hr.ext hx).cells (j:=i*4) (n:=4) (by rw[zOI];omega) (by omega);rw[zQj es i hi]at this;exact this
   simp only[hg8,hc1,coreS,aC,af,Nat.reduceAdd,Nat.reduceSub,Nat.reduceMul,Nat.reduceLeDiff,Int.reduceEq,Nat.reduceEqDiff,zO4];refine⟨fun hlt=>⟨⟨by omega,by omega⟩,hsm,?_⟩,fun hge=>absurd hge (by omega)⟩;refine ak.mono (hq _ (bS hi) _ hx) ?_;rintro v h2 ⟨rfl,hx2⟩;have htk:es.take (i+1)=es.take i++[es[i]]:=by rw[mM,aY hi];rfl
   cases hp:p es[i]
   .simp only[coreS,aC,af,Nat.reduceAdd,Nat.reduceSub,Nat.reduceMul,Nat.reduceLeDiff,Int.reduceEq,Nat.reduceEqDiff,zO4];refine⟨by rw[zBS];omega,Zr (by kernel_rfl) ⟨i+1,by omega,rfl,fun e he=> ?_,hx.trans hx2⟩ ?_⟩
    .rw[htk,ol,fe]at he;rcases he with he|rfl
     .exact hno e he
     .exact hp
    .show n-((i:Int)+1).toNat<n-(i:Int).toNat;omega
   .simp only[coreS,aC,af,Nat.reduceAdd,Nat.reduceSub,Nat.reduceMul,Nat.reduceLeDiff,Int.reduceEq,Nat.reduceEqDiff,zO4];exact⟨by rw[zU2 hi hno hp],hx.trans hx2⟩
  .simp only[hg8,coreS,aC,af,Nat.reduceAdd,Nat.reduceSub,Nat.reduceMul,Nat.reduceLeDiff,Int.reduceEq,Nat.reduceEqDiff,zO4];refine⟨fun hlt=>absurd hlt (by omega),fun hge=> ?_⟩;rw[bD (by omega)]at hno;exact⟨by rw[zU1 hno],hx⟩
theorem zQM (a:Option Addr)(n c:Nat)(es:List En)(q:FuncId)(caps:Array Value)(p:En->Bool)(h:Eng.Heap)(hr:Row h a (zOS es))(hn:n=es.length)(hl:n<=1000000)
 (hq:∀e∈es,∀h',Ext h h'->ak aF q (#[]++ #[.agg #[.int .i64 e.d,.int .i64 e.f,.int .i64 e.t,.int .i64 e.a]]++caps) h' (fun v h''=>v= .bool (p e)/\Ext h' h'')):
 ak aF 102 #[.slice a n c,.func (.func q) #[] caps] h (fun v h'=>v= .bool (es.any p)/\Ext h h'):=by
 (refine Rm Tryz.func102 rfl zXF ?_;simp only[Tryz.ntmps102,Tryz.results102,coreS,U1,splice,aC,af,Nat.reduceAdd,Nat.reduceSub,Nat.reduceMul,Nat.reduceLeDiff,Int.reduceEq,Nat.reduceEqDiff])
 refine ak.mono (zRJ a n c es q caps p h hr hn hl hq) ?_;rintro v h2 ⟨rfl,hx⟩;simp only[coreS,aC,af,Nat.reduceAdd,Nat.reduceSub,Nat.reduceMul,Nat.reduceLeDiff,Int.reduceEq,Nat.reduceEqDiff];refine⟨?_,hx⟩;congr 1;unfold zSs;cases hf:es.findIdx? p with
 |none=>
  rw[qM]at hf;have:es.any p=false:=by rw[zn];intro x hx;simp[hf x hx]
  simp[this]
 |some i=>
  rw[kX]at hf;obtain⟨hi,hp,_⟩:=hf;have:es.any p=true:=by rw[zW];exact⟨es[i],bS hi,hp⟩
  simp[this]
theorem zRj {a:Option Addr}{es:List En}(hr:Row h a (zOS es)){i:Nat}(hi:i<es.length):gm h (lg a (i*4)) 4=some [.int .i64 es[i].d,.int .i64 es[i].f,.int .i64 es[i].t,.int .i64 es[i].a]:=by
 have:=hr.cells (j:=i*4) (n:=4) (by rw[zOI];omega) (by omega);rw[zQj es i hi]at this;exact this
def zPp (es:List En):Prop:=∀i (hi:i+1<es.length),(es[i]'(by omega)).d<=es[i+1].d
theorem zT7 (a:Option Addr)(n c:Nat)(es:List En)(h:Eng.Heap)(hr:Row h a (zOS es))(hn:n=es.length)(hl:n<=1000000)(hd:∀e∈es,0<=e.d/\e.d<=1000000):
 ak aF 103 #[.slice a n c,.func (.func 101) #[] #[]] h (fun v h'=>∃b:Bool,v= .bool b/\(b=true<->zPp es)/\Ext h h'):=by
 (refine Rm Tryz.func103 rfl zXG ?_;simp only[Tryz.ntmps103,Tryz.results103,coreS,U1,splice,aC,af,Nat.reduceAdd,Nat.reduceSub,Nat.reduceMul,Nat.reduceLeDiff,Int.reduceEq,Nat.reduceEqDiff,zOJ])
 refine⟨by rw[zBS];omega,?_⟩;refine zAi [4,5,9,10,11,12,13,14,15,16,17,18,19,20,21,22,23,24] (fun g h'=>∃i:Int,-1<=i/\i<n/\g 5= .int .i64 i/\(∀j (hj:j+1<es.length),i<j+1->(es[j]'(by omega)).d<=es[j+1].d)/\Ext h h') (fun g _=>match g 5 with| .int _ m=>(m+1).toNat|_=>0) ⟨(n:Int)-1,by omega,by omega,rfl,fun j hj h1=>by omega,Ext.refl h⟩ ?_;rintro g h' ⟨i,hi1,hin,hg5,hs,hx⟩;by_cases hi:0<i
 .obtain⟨k,rfl⟩:∃k:Nat,i=(k:Int)+1:=⟨(i-1).toNat,by omega⟩;have hk:k+1<es.length:=by omega
  have hsm:a.isSome=true:=hr.isSome (by rw[zOI];omega);have hc1:=zRj (hr.ext hx) hk;have hc2:=zRj (hr.ext hx) (show k<es.length by omega);have t1:((k:Int)+1).toNat=k+1:=by omega
  have t2:((k:Int)+1-1)=k:=by omega
  have d1:=hd _ (bS hk);have d2:=hd _ (bS (show k<es.length by omega));simp only[hg5,hi,decide_true,coreS,aC,af,Nat.reduceAdd,Nat.reduceSub,Nat.reduceMul,Nat.reduceLeDiff,Int.reduceEq,Nat.reduceEqDiff,zOJ];refine zB9 (by kernel_rfl) zBc [(0,0),(1,0),(2,0),(3,0),(4,0),(5,0),(6,0),(7,0),(8,0),(9,0),(10,0),(11,0)] (by kernel_rfl) rfl (by kernel_rfl) ?_;simp only[hg5,t1,t2,hc1,hc2,bi,coreS,aC,af,Nat.reduceAdd,Nat.reduceSub,Nat.reduceMul,Nat.reduceLeDiff,Int.reduceEq,Nat.reduceEqDiff,drawS,zOJ];refine⟨by omega,hsm,by rw[zBS];omega,by omega,hsm,?_⟩;refine zCC _ (fun h2 x2=>ak.mono (zUU es[k+1] es[k] h2 (by rw[zBS];omega)) fun v h3 q=>⟨q.1,q.2⟩) ?_;by_cases hlt:es[k+1].d-es[k].d<0
  .simp only[hlt,decide_true,coreS,aC,af,Nat.reduceAdd,Nat.reduceSub,Nat.reduceMul,Nat.reduceLeDiff,Int.reduceEq,Nat.reduceEqDiff,drawS,zOJ];refine zBw fun h2 x2=> ?_
   simp only[coreS,aC,af,Nat.reduceAdd,Nat.reduceSub,Nat.reduceMul,Nat.reduceLeDiff,Int.reduceEq,Nat.reduceEqDiff,drawS,zOJ];exact⟨false,rfl,⟨fun hf=>(by cases hf),fun hs=>by have:=hs k hk;omega⟩,hx.trans x2⟩
  .simp only[hlt,decide_false,coreS,aC,af,Nat.reduceAdd,Nat.reduceSub,Nat.reduceMul,Nat.reduceLeDiff,Int.reduceEq,Nat.reduceEqDiff,drawS,zOJ];refine zBw fun h2 x2=> ?_
   simp only[coreS,aC,af,Nat.reduceAdd,Nat.reduceSub,Nat.reduceMul,Nat.reduceLeDiff,Int.reduceEq,Nat.reduceEqDiff,drawS,zOJ];refine⟨by rw[zBS];omega,Zr (by kernel_rfl) ⟨(k:Int)+1-1,by omega,by omega,rfl,fun j hj h1=> ?_,hx.trans x2⟩ ?_⟩
   .by_cases hjk:j=k
    .subst hjk;omega
    .exact hs j hj (by omega)
   .show((k:Int)+1-1+1).toNat<((k:Int)+1+1).toNat;omega
 .simp only[hg5,hi,decide_false,coreS,aC,af,Nat.reduceAdd,Nat.reduceSub,Nat.reduceMul,Nat.reduceLeDiff,Int.reduceEq,Nat.reduceEqDiff,zOJ];exact⟨true,rfl,⟨fun _ j hj=>hs j hj (by omega),fun _=>rfl⟩,hx⟩
end
end Go.Proofs.YtejmkibjpaoahaaGreatDoor
end
section
namespace Go.Proofs.YtejmkibjpaoahaaGreatDoor
open RL
section
variable {e:En}{es:List En}{i:Nat}{l:Int}{o:List Int}{x y:Int}
set_option linter.unusedSimpArgs false
set_option linter.unusedVariables false
def lo (o:List Int)(i:Nat):Int:=o.getD (2*i) 0
def hi (o:List Int)(i:Nat):Int:=o.getD (2*i+1) 0
def okM (e:En):Prop:=0<=e.d/\e.d<=e.f/\e.f<=1000/\0<=e.t/\e.t<=e.a/\e.a<=1000
def mlo (e:En)(x:Int):Int:=max 0 (x*e.d/1000-e.a)
def mhi (e:En)(x:Int):Int:=max 0 (x*e.f/1000-e.t)
def ned (k f l:Int):Int:=if l<=0 then 0 else if k=0 then 1000001 else min 1000001 (((l+f)*1000+k-1)/k)
def nlo (e:En)(l:Int):Int:=ned e.f e.t l
def nhi (e:En)(l:Int):Int:=ned e.d e.a (l+1)-1
theorem zVT (h:okM e)(hx:x<=y):mlo e x<=mlo e y:=by
 have h1:x*e.d<=y*e.d:=zD hx h.1;unfold mlo;omega
theorem zVS (h:okM e)(hx:x<=y):mhi e x<=mhi e y:=by
 have h1:x*e.f<=y*e.f:=zD hx (by have:=h.1;have:=h.2.1;omega);unfold mhi;omega
theorem zXv (h:okM e)(hx:0<=x)(h2:y<=mhi e x)(hl:l<=y):nlo e l<=x:=by
 unfold nlo ned;split
 .exact hx
 .rename_i h0;unfold mhi at h2;have h3:(l+e.t)*1000<=x*e.f:=by omega
  have hf:0<=e.f:=by have:=h.1;have:=h.2.1;omega
  have ht:=h.2.2.2.1;split
  .rename_i hf0;rw[hf0,Int.mul_zero]at h3;omega
  .rename_i hf0;have:((l+e.t)*1000+e.f-1)/e.f<=x:=by
    have hp:0<e.f:=by omega
    have:=Int.ediv_lt_of_lt_mul hp (show(l+e.t)*1000+e.f-1<(x+1)*e.f by rw[zaE x 1 e.f];omega);omega
   omega
theorem zXm (h:okM e)(hx:x<=1000000)(h1:mlo e x<=y)(hl:y<=l):x<=nhi e l:=by
 unfold nhi ned;have h0:0<=mlo e x:=by unfold mlo;omega
 rw[if_neg (by omega)];split
 .omega
 .rename_i hd0;have hp:0<e.d:=by have:=h.1;omega
  have h3:x*e.d<(l+1+e.a)*1000:=by unfold mlo at h1;omega
  have:x+1<=((l+1+e.a)*1000+e.d-1)/e.d:=by
   rw[Int.le_ediv_iff_mul_le hp,zaE x 1 e.d];omega
  omega
theorem zW1 (h:okM e)(hx:x<=1000000)(hl:nlo e l<=x):l<=mhi e x:=by
 unfold nlo ned at hl;unfold mhi;by_cases h0:l<=0
 .omega
 rw[if_neg h0]at hl;by_cases hf0:e.f=0
 .rw[if_pos hf0]at hl;omega
 rw[if_neg hf0]at hl;have hp:0<e.f:=by have:=h.1;have:=h.2.1;omega
 have h1:((l+e.t)*1000+e.f-1)/e.f<x+1:=by omega
 have h2:=(Int.ediv_lt_iff_lt_mul hp).1 h1;rw[zaE x 1 e.f]at h2;omega
theorem zXt {k f:Int}(hk:0<=k)(hf:0<=f):0<=ned k f l/\ned k f l<=1000001:=by
 unfold ned;split
 .omega
 .split
  .omega
  .have:0<=((l+f)*1000+k-1)/k:=Oe (by omega) hk;omega
def Tr (es:List En)(o:List Int)(w:Nat->Int):Prop:=
 (∀i,i<=es.length->lo o i<=w i/\w i<=hi o i)/\∀i (h:i<es.length),mlo es[i] (w i)<=w (i+1)/\w (i+1)<=mhi es[i] (w i)
def Vl (o:List Int):Prop:=o.length=16/\∀i,i<8->0<=lo o i/\lo o i<=hi o i/\hi o i<=1000000
structure Nar (es:List En)(o o':List Int):Prop where
 len:o'.length=o.length
 lo:∀i,lo o i<=lo o' i
 hi:∀i,hi o' i<=hi o i
 tr:∀w,Tr es o w->Tr es o' w
theorem Nar.refl (es:List En)(o:List Int):Nar es o o:=⟨rfl,fun _=>Int.le_refl _,fun _=>Int.le_refl _,fun _ h=>h⟩
theorem Nar.trans {a b c:List Int}(h:Nar es a b)(h':Nar es b c):Nar es a c:=
 ⟨h'.len.trans h.len,fun i=>Int.le_trans (h.lo i) (h'.lo i),fun i=>Int.le_trans (h'.hi i) (h.hi i),fun w t=>h'.tr w (h.tr w t)⟩
theorem Nar.eq {a b:List Int}(h:Nar es a b)(h':Nar es b a):a=b:=by
 refine zP5 h.len.symm fun i _=> ?_
 rcases GL i with h2|h2
 .have:=h.lo (i/2);have:=h'.lo (i/2);unfold Go.Proofs.YtejmkibjpaoahaaGreatDoor.lo at *;rw[show 2*(i/2)=i by omega]at *;omega
 .have:=h.hi (i/2);have:=h'.hi (i/2);unfold Go.Proofs.YtejmkibjpaoahaaGreatDoor.hi at *;rw[show 2*(i/2)+1=i by omega]at *;omega
def met (o:List Int)(i:Nat)(a b:Int):List Int:=(o.set (2*i) (max (lo o i) a)).set (2*i+1) (min (hi o i) b)
theorem zPf (o:List Int)(i:Nat)(a b:Int):(met o i a b).length=o.length:=by simp[met]
theorem zRf (a b:Int)(h:2*i+1<o.length)(j:Nat):lo (met o i a b) j=if j=i then max (lo o i) a else lo o j:=by
 unfold met lo;simp only[iq,vk,Dn];by_cases hj:j=i
 .subst hj;rw[if_neg (by omega),if_pos rfl,if_pos rfl,if_pos (by omega)];rfl
 .rw[if_neg (by omega),if_neg (by omega),if_neg hj]
theorem zRe (a b:Int)(h:2*i+1<o.length)(j:Nat):hi (met o i a b) j=if j=i then min (hi o i) b else hi o j:=by
 unfold met hi;simp only[iq,vk,Dn];by_cases hj:j=i
 .subst hj;rw[if_pos rfl,if_pos rfl,if_pos (by omega)];rfl
 .rw[if_neg (by omega),if_neg (by omega),if_neg hj]
theorem zUG {a b:Int}(h:2*i+1<o.length)(H:∀w,Tr es o w->i<=es.length->a<=w i/\w i<=b):Nar es o (met o i a b):=by
 refine⟨zPf _ _ _ _,fun j=> ?_,fun j=> ?_,fun w t=>⟨fun j hj=> ?_,t.2⟩⟩
 .rw[zRf a b h];split
  .rename_i e;subst e;omega
  .omega
 .rw[zRe a b h];split
  .rename_i e;subst e;omega
  .omega
 .rw[zRf a b h,zRe a b h];have:=t.1 j hj;split
  .rename_i e;subst e;have:=H w t hj;omega
  .exact this
theorem zVR {a b:Int}(V:Vl o)(h:i<8)(hc:¬min (hi o i) b<max (lo o i) a):Vl (met o i a b):=by
 have hl:=V.1;refine⟨by rw[zPf,hl],fun j hj=> ?_⟩;have h1:=V.2 j hj;rw[zRf a b (by omega),zRe a b (by omega)];split
 .rename_i e;subst e;omega
 .exact h1
theorem zWD (he:∀e∈es,okM e)(V:Vl o)(h:i<es.length)(h7:es.length<=7):Nar es o (met o (i+1) (mlo es[i] (lo o i)) (mhi es[i] (hi o i))):=by
 have hl:=V.1;have hk:=he _ (bS h);refine zUG (by omega) fun w t _=> ?_
 have h1:=t.1 i (by omega);have h2:=t.2 i h;have:=zVT hk h1.1;have:=zVS hk h1.2;omega
theorem zVm (he:∀e∈es,okM e)(V:Vl o)(h:i<es.length)(h7:es.length<=7):Nar es o (met o i (nlo es[i] (lo o (i+1))) (nhi es[i] (hi o (i+1)))):=by
 have hl:=V.1;have hk:=he _ (bS h);refine zUG (by omega) fun w t _=> ?_
 have h1:=t.1 i (by omega);have h3:=t.1 (i+1) (by omega);have h2:=t.2 i h;have hv:=V.2 i (by omega);exact⟨zXv hk (by omega) h2.2 h3.1,zXm hk (by omega) h2.1 h3.2⟩
def zVi (es:List En)(o:List Int)(n:Nat):Prop:=∀i (h:i<es.length),i<n->mlo es[i] (lo o i)<=lo o (i+1)
def zWw (es:List En)(o:List Int)(n:Nat):Prop:=∀i (h:i<es.length),n<=i->nlo es[i] (lo o (i+1))<=lo o i
theorem zXe (he:∀e∈es,okM e)(V:Vl o)(h7:es.length<=7)(hF:zVi es o es.length)(hB:zWw es o 0):Tr es o (lo o):=by
 refine⟨fun i hi=> ?_,fun i h=> ?_⟩
 .have:=V.2 i (by omega);omega
 .have hv:=V.2 i (by omega);exact⟨hF i h h,zW1 (he _ (bS h)) (by omega) (hB i h (Nat.zero_le _))⟩
def mu (o:List Int):Nat:=(hi o 0-lo o 0).toNat+(hi o 1-lo o 1).toNat+(hi o 2-lo o 2).toNat+(hi o 3-lo o 3).toNat+(hi o 4-lo o 4).toNat+(hi o 5-lo o 5).toNat+(hi o 6-lo o 6).toNat+(hi o 7-lo o 7).toNat
theorem zZF {o':List Int}(V:Vl o)(V':Vl o')(N:Nar es o o')(h:o'≠o):mu o'<mu o:=by
 have ht:∀i,(hi o' i-lo o' i).toNat<=(hi o i-lo o i).toNat:=fun i=>by have:=N.lo i;have:=N.hi i;omega
 have:=ht 0;have:=ht 1;have:=ht 2;have:=ht 3;have:=ht 4;have:=ht 5;have:=ht 6;have:=ht 7;by_cases hlt:mu o'<mu o
 .exact hlt
 exfalso;apply h;unfold mu at hlt;have key:∀i,i<8->lo o' i=lo o i/\hi o' i=hi o i:=fun i hi8=>by
  have he:(hi o' i-lo o' i).toNat=(hi o i-lo o i).toNat:=by
   have:i=0\/i=1\/i=2\/i=3\/i=4\/i=5\/i=6\/i=7:=by omega
   rcases this with rfl|rfl|rfl|rfl|rfl|rfl|rfl|rfl<;>omega
  have:=N.lo i;have:=N.hi i;have:=V.2 i hi8;have:=V'.2 i hi8;omega
 refine zP5 (by rw[V.1,V'.1]) fun i hi16=> ?_
 rw[V'.1]at hi16;rcases GL i with h2|h2
 .have:=(key (i/2) (by omega)).1;unfold Go.Proofs.YtejmkibjpaoahaaGreatDoor.lo at this;rwa[show 2*(i/2)=i by omega]at this
 .have:=(key (i/2) (by omega)).2;unfold Go.Proofs.YtejmkibjpaoahaaGreatDoor.hi at this;rwa[show 2*(i/2)+1=i by omega]at this
end
end Go.Proofs.YtejmkibjpaoahaaGreatDoor
end
section
namespace Go.Proofs.YtejmkibjpaoahaaGreatDoor
open Go Go.Proofs Go.Eng Tab
set_option maxRecDepth 100000
set_option linter.unusedSimpArgs false
set_option linter.unusedVariables false
set_option maxHeartbeats 1000000
set_option linter.defProp false
def zOE:=(aD (aD (aD @zQL (aD @zRY @by3)) (aD @zQb (aD @zSP @zQc))) (aD (aD @zPs (aD @zR8 @sz3)) (aD (aD @zTg @zRm) (aD @Tryz.underlying29 @Tryz.underlying33))))
noncomputable instance (es:List En):Decidable (zPp es):=Classical.propDecidable _
noncomputable def chk (acc cl:Int)(es:List En):Int:=
 if¬(2<=acc/\acc<=8)\/20<es.length then 6
 else if¬(0<=cl/\cl<=30)\/¬(∀e∈es,okE acc e)then 3
 else if¬zPp es\/∃e∈es,e.f=e.t then 16
 else 0
theorem zRQ (acc cl:Int)(a:Option Addr)(n c:Nat)(es:List En)(h:Eng.Heap)(hr:Row h a (zOS es))(hn:n=es.length)(hl:n<=1000000):
 ak aF 39 #[.agg #[.int .i64 acc,.int .i64 cl,.slice a n c]] h (fun v h'=>v= .int .i64 (chk acc cl es)/\Ext h h'):=by
 (refine Rm Tryz.func39 rfl zY6 ?_;simp only[Tryz.ntmps39,Tryz.results39,coreS,U1,splice,aC,af,Nat.reduceAdd,Nat.reduceSub,Nat.reduceMul,Nat.reduceLeDiff,Int.reduceEq,Nat.reduceEqDiff,zOE])
 refine ak.mono (zPh 2 8 _ 1 1 [acc] _ (zPN pn1) (by omega)) ?_;rintro v h1 ⟨rfl,x1⟩;have hb1:=x1.get pn0;have y1:=x1.zBe.zBe;by_cases ha:2<=acc/\acc<=8
 .by_cases hm:20<(n:Int)
  .have hc:chk acc cl es=6:=by unfold chk;rw[if_pos (.inr (by omega))]
   simp only[zPI,ha,hb1,hm,hc,and_self,decide_true,bE,coreS,aC,af,Nat.reduceAdd,Nat.reduceSub,Nat.reduceMul,Nat.reduceLeDiff,Int.reduceEq,Nat.reduceEqDiff,zOE];exact y1
  .simp only[zPI,ha,hb1,hm,and_self,decide_true,decide_false,bE,coreS,aC,af,Nat.reduceAdd,Nat.reduceSub,Nat.reduceMul,Nat.reduceLeDiff,Int.reduceEq,Nat.reduceEqDiff,zOE];refine ak.mono (zPh 0 30 _ 1 1 [cl] _ (zPN jD) (by omega)) ?_;rintro v h2 ⟨rfl,x2⟩;have hb2:=x2.zBe.get hb1;have y2:=y1.trans x2.zBe;by_cases hcl:0<=cl/\cl<=30
   .simp only[zPI,hcl,hb2,and_self,decide_true,bE,coreS,aC,af,Nat.reduceAdd,Nat.reduceSub,Nat.reduceMul,Nat.reduceLeDiff,Int.reduceEq,Nat.reduceEqDiff,zOE];refine ak.mono (zQM a n c es 100 _ (fun e=> !decide (okE acc e)) h2 (hr.ext y2) hn hl fun e _ h' x'=>zUT acc cl _ e _ h' (x'.get hb2) (by omega)) ?_;rintro v h3 ⟨rfl,x3⟩;have hb3:=x3.get hb2;have y3:=y2.trans x3;by_cases hall:∀e∈es,okE acc e
    .have hany:(es.any fun e=> !decide (okE acc e))=false:=by
      rw[zn];intro e he;simp[hall e he]
     simp only[hany,hb3,coreS,aC,af,Nat.reduceAdd,Nat.reduceSub,Nat.reduceMul,Nat.reduceLeDiff,Int.reduceEq,Nat.reduceEqDiff,zOE];refine ak.mono (zT7 a n c es h3 (hr.ext y3) hn hl fun e he=>by have:=(hall e he).1;omega) ?_;rintro v h4 ⟨b,rfl,hb,x4⟩;have hb4:=x4.get hb3;have y4:=y3.trans x4;cases b with
     |false=>
      have hs:¬zPp es:=fun hs=>by have:=hb.2 hs;cases this
      have hc:chk acc cl es=16:=by
       unfold chk;rw[if_neg (by omega),if_neg (by rintro(h|h);exact h hcl;exact h hall),if_pos (.inl hs)]
      simp only[hb4,hc,coreS,aC,af,Nat.reduceAdd,Nat.reduceSub,Nat.reduceMul,Nat.reduceLeDiff,Int.reduceEq,Nat.reduceEqDiff,zOE];exact y4
     |true=>
      have hs:zPp es:=hb.1 rfl;simp only[hb4,coreS,aC,af,Nat.reduceAdd,Nat.reduceSub,Nat.reduceMul,Nat.reduceLeDiff,Int.reduceEq,Nat.reduceEqDiff,zOE];refine ak.mono (zQM a n c es 104 #[] (fun e=>decide (e.f=e.t)) h4 (hr.ext y4) hn hl fun e _ h' x'=>zUV e h') ?_;rintro v h5 ⟨rfl,x5⟩;have y5:=y4.trans x5;by_cases hex:∃e∈es,e.f=e.t
      .have hany2:(es.any fun e=>decide (e.f=e.t))=true:=by
        obtain⟨e,he,h1⟩:=hex;rw[zW];exact⟨e,he,by simp[h1]⟩
       have hc:chk acc cl es=16:=by
        unfold chk;rw[if_neg (by omega),if_neg (by rintro(h|h);exact h hcl;exact h hall),if_pos (.inr hex)]
       simp only[hany2,hc,coreS,aC,af,Nat.reduceAdd,Nat.reduceSub,Nat.reduceMul,Nat.reduceLeDiff,Int.reduceEq,Nat.reduceEqDiff,zOE];exact y5
      .have hany2:(es.any fun e=>decide (e.f=e.t))=false:=by
        rw[zn];intro e he;simp;exact fun h1=>hex ⟨e,he,h1⟩
       have hc:chk acc cl es=0:=by
        unfold chk;rw[if_neg (by omega),if_neg (by rintro(h|h);exact h hcl;exact h hall),if_neg (by rintro(h|h);exact h hs;exact hex h)]
       simp only[hany2,hc,coreS,aC,af,Nat.reduceAdd,Nat.reduceSub,Nat.reduceMul,Nat.reduceLeDiff,Int.reduceEq,Nat.reduceEqDiff,zOE];exact y5
    .have hany:(es.any fun e=> !decide (okE acc e))=true:=by
      rw[zW];simp only[Classical.not_forall]at hall;obtain⟨e,he,h1⟩:=hall;exact⟨e,he,by simp[h1]⟩
     have hc:chk acc cl es=3:=by unfold chk;rw[if_neg (by omega),if_pos (.inr hall)]
     simp only[hany,hc,coreS,aC,af,Nat.reduceAdd,Nat.reduceSub,Nat.reduceMul,Nat.reduceLeDiff,Int.reduceEq,Nat.reduceEqDiff,zOE];exact y3
   .have hc:chk acc cl es=3:=by unfold chk;rw[if_neg (by omega),if_pos (.inl hcl)]
    simp only[zPI,hcl,hc,decide_false,bP,coreS,aC,af,Nat.reduceAdd,Nat.reduceSub,Nat.reduceMul,Nat.reduceLeDiff,Int.reduceEq,Nat.reduceEqDiff,zOE];exact y2
 .have hc:chk acc cl es=6:=by unfold chk;rw[if_pos (.inl ha)]
  simp only[zPI,ha,hc,decide_false,bP,coreS,aC,af,Nat.reduceAdd,Nat.reduceSub,Nat.reduceMul,Nat.reduceLeDiff,Int.reduceEq,Nat.reduceEqDiff,zOE];exact y1
end Go.Proofs.YtejmkibjpaoahaaGreatDoor
end
section
namespace Go.Proofs.YtejmkibjpaoahaaGreatDoor
open Go Go.Proofs Go.Eng Tab
section
variable {h:Eng.Heap}
set_option maxRecDepth 100000
set_option linter.unusedSimpArgs false
set_option linter.unusedVariables false
set_option maxHeartbeats 1000000
set_option linter.defProp false
def zOC:=(aD (aD (aD (aD @zQL @zRY) (aD @zQ4 @zQi)) (aD (aD @zQb @zSP) (aD @zQc @zQF))) (aD (aD (aD @zQN @zQO) (aD @zPs @zR8)) (aD (aD @zPK @sz3) (aD @zTg (aD @zQA @Tryz.underlying33)))))
theorem zPl {P:Program}{R:Eng.Heap->Eng.Heap->Prop}{s:Tmp}{w:Bool}{op:Op}{ty:TypeId}{all:List Oper}{rest:List (Nat×Nat)}{k:aj}{dst:Option Tmp}{e:Env}{d:List Deferred}:gq P R undef s w op ty all rest k dst e d h=bF P R all rest k (aU e dst undef) d h:=UQ
theorem Row.addr {a:Option Addr}{cs:List Value}(H:Row h a cs)(hl:0<cs.length):∃g off,a=some ⟨g,off,none⟩:=by
 rcases H with H|⟨g,off,cur,ct,fr,h1,_⟩
 .simp[H]at hl
 .exact⟨g,off,h1⟩
theorem zW4 {g off:Nat}{es:List En}(hr:Row h (some ⟨g,off,none⟩) (zOS es)){j:Nat}(hj:j<es.length)(k:Nat)(hk:k<4):jL h (some ⟨g,off+j*4+k,none⟩)=(enV es[j])[k]? :=by
 have h1:=hr.cell (j:=j*4+k) (by rw[zOI];omega);have h2:=zTo es j k hj hk;rw[aY (by rw[zOI];omega)]at h2;rw[gK]at h1;rw[Mc,h1,h2]
theorem zSJ (acc cl:Int)(a:Option Addr)(n c:Nat)(es:List En)(h:Eng.Heap)(hr:Row h a (zOS es))(hn:n=es.length)(hl:n<=1000000):
 ak aF 12 #[.agg #[.int .i64 acc,.int .i64 cl,.slice a n c]] h (fun v h'=>v= .int .i64 (chk acc cl es)/\Ext h h'):=by
 (refine Rm Tryz.func12 rfl zYY ?_;simp only[Tryz.ntmps12,Tryz.results12,coreS,U1,splice,aC,af,Nat.reduceAdd,Nat.reduceSub,Nat.reduceMul,Nat.reduceLeDiff,Int.reduceEq,Nat.reduceEqDiff,zOC])
 have x0:Ext h (h.push (.cells #[.int .i64 acc,.int .i64 cl,.slice a n c] 35)):=(Ext.refl h).push _;have key:∀{p:Prop},chk acc cl es=6->p->lN .i64 6=lN .i64 (chk acc cl es)/\p:=fun h hp=>⟨by rw[h],hp⟩
 refine⟨fun h1=> ?_,fun h1=>⟨fun h2=> ?_,fun h2=>⟨fun h3=> ?_,fun h3=> ?_⟩⟩⟩
 .exact key (by unfold chk;rw[if_pos (.inl (by omega))]) x0
 .exact key (by unfold chk;rw[if_pos (.inl (by omega))]) x0
 .exact key (by unfold chk;rw[if_pos (.inr (by omega))]) x0
 have x0b:(h.push (.cells #[.int .i64 acc,.int .i64 cl,.slice a n c] 35))[h.size]? =some (.cells #[.int .i64 acc,.int .i64 cl,.slice a n c] 35):=jD;refine⟨fun h4=> ?_,fun h4=>⟨fun h5=> ?_,fun h5=> ?_⟩⟩
 .exact⟨by rw[chk,if_neg (by omega),if_pos (.inl (by omega))],x0⟩
 .exact⟨by rw[chk,if_neg (by omega),if_pos (.inl (by omega))],x0⟩
 have k3:∀{e:En},e∈es->¬okE acc e->chk acc cl es=3:=fun he hk=>by rw[chk,if_neg (by omega),if_pos (.inr fun hh=>hk (hh _ he))]
 refine zAi [2,3,27,28,29,30,31,32,33,34,35,36,37,38,39,40,41,42] (fun g h'=>∃i:Nat,i<=n/\g 3= .int .i64 i/\(∀e∈es.take i,okE acc e)/\Ext (h.push (.cells #[.int .i64 acc,.int .i64 cl,.slice a n c] 35)) h') (fun g _=>match g 3 with| .int _ m=>n-m.toNat|_=>0) ⟨0,by omega,rfl,by simp,Ext.refl _⟩ ?_;rintro g h' ⟨i,hin,hg3,hok,hx⟩;have hb:=hx.get x0b;have hxe:=x0.trans hx;by_cases hi:i<es.length
 .have hsm:a.isSome=true:=hr.isSome (by rw[zOI];omega);have hc1:=zRj (hr.ext hxe) hi;simp only[hg3,hb,coreS,aC,af,Nat.reduceAdd,Nat.reduceSub,Nat.reduceMul,Nat.reduceLeDiff,Int.reduceEq,Nat.reduceEqDiff,zOC];refine⟨fun _=> ?_,fun hge=>absurd hge (by omega)⟩;refine zB9 (by kernel_rfl) zBc [(0,0),(1,0),(2,0),(3,0),(4,0),(5,0),(6,0),(7,0),(8,0)] (by kernel_rfl) rfl (by kernel_rfl) ?_;simp only[hg3,hb,hc1,bi,coreS,aC,af,Nat.reduceAdd,Nat.reduceSub,Nat.reduceMul,Nat.reduceLeDiff,Int.reduceEq,Nat.reduceEqDiff,drawS,zOC];refine⟨by omega,hsm,?_⟩;refine zCC _ (fun h2 x2=>ak.mono (zU4 acc es[i] h2) fun v h3 q=>⟨q.1,q.2⟩) ?_;have htk:es.take (i+1)=es.take i++[es[i]]:=by rw[mM,aY hi];rfl
  by_cases ho:okE acc es[i]
  .simp only[ho,if_true,coreS,aC,af,Nat.reduceAdd,Nat.reduceSub,Nat.reduceMul,Nat.reduceLeDiff,Int.reduceEq,Nat.reduceEqDiff,drawS,zOC];refine zBw fun h2 x2=> ?_
   simp only[coreS,aC,af,Nat.reduceAdd,Nat.reduceSub,Nat.reduceMul,Nat.reduceLeDiff,Int.reduceEq,Nat.reduceEqDiff,drawS,zOC];refine⟨by rw[zBS];omega,Zr (by kernel_rfl) ⟨i+1,by omega,rfl,fun e he=> ?_,hx.trans x2⟩ ?_⟩
   .rw[htk,ol,fe]at he;rcases he with he|rfl
    .exact hok e he
    .exact ho
   .show n-((i:Int)+1).toNat<n-(i:Int).toNat;omega
  .simp only[ho,if_false,coreS,aC,af,Nat.reduceAdd,Nat.reduceSub,Nat.reduceMul,Nat.reduceLeDiff,Int.reduceEq,Nat.reduceEqDiff,drawS,zOC];refine zBw fun h2 x2=> ?_
   simp only[coreS,aC,af,Nat.reduceAdd,Nat.reduceSub,Nat.reduceMul,Nat.reduceLeDiff,Int.reduceEq,Nat.reduceEqDiff,drawS,zOC];exact⟨by rw[k3 (bS hi) ho],hxe.trans x2⟩
 .obtain rfl:i=n:=by omega
  rw[bD (by omega)]at hok;simp only[hg3,hb,coreS,aC,af,Nat.reduceAdd,Nat.reduceSub,Nat.reduceMul,Nat.reduceLeDiff,Int.reduceEq,Nat.reduceEqDiff,zOC];refine⟨fun hlt=>absurd hlt (by omega),fun _=> ?_⟩;have k16:(¬zPp es\/∃e∈es,e.f=e.t)->chk acc cl es=16:=fun hh=>by rw[chk,if_neg (by omega),if_neg (by rintro(h6|h6);exact h6 ⟨by omega,by omega⟩;exact h6 hok),if_pos hh]
  refine zAi [2,4,43,44,45,46,47,48,49,50,51,52,53,54,55,56,57,58,59,60,61,62,63,64,65,66,67,68,69,70,71,72,73,74,75,76,77,78,79,80,81,82] (fun g h''=>∃j:Nat,j<=i/\g 4= .int .i64 j/\(∀e∈es.take j,e.f≠e.t)/\(∀k (hk:k+1<es.length),k+1<j->(es[k]'(by omega)).d<=es[k+1].d)/\Ext h' h'') (fun g _=>match g 4 with| .int _ m=>i-m.toNat|_=>0) ⟨0,by omega,rfl,by simp,fun k hk h6=>by omega,Ext.refl _⟩ ?_;rintro g2 h2 ⟨j,hjn,hg4,hne,hso,hx2⟩;have hb2:=hx2.get hb;have hxe2:=hxe.trans hx2;by_cases hj:j<es.length
  .have hsm:a.isSome=true:=hr.isSome (by rw[zOI];omega);obtain⟨g0,off,rfl⟩:=Row.addr hr (by rw[zOI];omega);have hr2:=hr.ext hxe2;have c1:jL h2 (some ⟨g0,off+j*4+1,none⟩)=some (.int .i64 es[j].f):=zW4 hr2 hj 1 (by omega);have c2:jL h2 (some ⟨g0,off+j*4+2,none⟩)=some (.int .i64 es[j].t):=zW4 hr2 hj 2 (by omega);have c0:jL h2 (some ⟨g0,off+j*4,none⟩)=some (.int .i64 es[j].d):=zW4 hr2 hj 0 (by omega);simp only[hg4,hb2,coreS,aC,af,Nat.reduceAdd,Nat.reduceSub,Nat.reduceMul,Nat.reduceLeDiff,Int.reduceEq,Nat.reduceEqDiff,zOC];refine⟨fun _=> ?_,fun hge=>absurd hge (by omega)⟩;refine zB9 (by kernel_rfl) zBp [(0,0),(1,0),(2,0),(3,0),(4,0),(5,0),(6,0),(7,0),(8,0),(9,0),(10,0),(11,0),(12,0),(13,0),(14,0),(15,0),(16,0),(17,0),(18,0),(19,0),(20,0),(21,0),(22,0),(23,0),(24,0),(25,0),(26,0),(27,0),(28,0),(29,0),(30,0),(31,0),(32,0)] (by kernel_rfl) rfl (by kernel_rfl) ?_;by_cases hft:es[j].f=es[j].t
   .simp only[hg4,hb2,c1,c2,c0,hft,zPl,decide_true,gK,zO,bi,coreS,aC,af,Nat.reduceAdd,Nat.reduceSub,Nat.reduceMul,Nat.reduceLeDiff,Int.reduceEq,Nat.reduceEqDiff,drawS,zOC];refine⟨by omega,by first|rfl|trivial,by omega,by first|rfl|trivial,?_⟩;exact⟨by rw[k16 (.inr ⟨_,bS hj,hft⟩)],hxe2⟩
   .have htk:es.take (j+1)=es.take j++[es[j]]:=by rw[mM,aY hj];rfl
    have hne':∀e∈es.take (j+1),e.f≠e.t:=fun e he=>by
     rw[htk,ol,fe]at he;rcases he with he|rfl
     .exact hne e he
     .exact hft
    rcases j with _|m
    .have hz:¬((0:Nat):Int)>0:=by omega
     have hz2:¬(0:Int)<((0:Nat):Int):=by omega
     simp only[hg4,hb2,c1,c2,c0,hft,hz,hz2,zPl,decide_false,gK,zO,bi,coreS,aC,af,Nat.reduceAdd,Nat.reduceSub,Nat.reduceMul,Nat.reduceLeDiff,Int.reduceEq,Nat.reduceEqDiff,drawS,zOC];refine⟨by omega,by first|rfl|trivial,by omega,by first|rfl|trivial,?_⟩;refine⟨by rw[zBS];omega,Zr (by kernel_rfl) ⟨1,by omega,rfl,hne',fun k hk h6=>by omega,hx2⟩ ?_⟩;show i-((0:Int)+1).toNat<i-(0:Int).toNat;omega
    .have hz2:(0:Int)<((m+1:Nat):Int):=by omega
     have t1:(((m+1:Nat):Int)-1).toNat=m:=by omega
     have hm:m<es.length:=by omega
     have c3:jL h2 (some ⟨g0,off+m*4,none⟩)=some (.int .i64 es[m].d):=zW4 hr2 hm 0 (by omega);by_cases hlt:es[m+1].d<es[m].d
     .simp only[hg4,hb2,c1,c2,c0,c3,t1,hft,hz2,hlt,zPl,decide_true,decide_false,gK,zO,bi,coreS,aC,af,Nat.reduceAdd,Nat.reduceSub,Nat.reduceMul,Nat.reduceLeDiff,Int.reduceEq,Nat.reduceEqDiff,drawS,zOC]
      repeat (refine aD (by first|omega|(rw[zBS];omega)|rfl|assumption) ?_)
      exact⟨by rw[k16 (.inl fun hs=>by have:=hs m hj;omega)],hxe2⟩
     .simp only[hg4,hb2,c1,c2,c0,c3,t1,hft,hz2,hlt,zPl,decide_true,decide_false,gK,zO,bi,coreS,aC,af,Nat.reduceAdd,Nat.reduceSub,Nat.reduceMul,Nat.reduceLeDiff,Int.reduceEq,Nat.reduceEqDiff,drawS,zOC]
      repeat (refine aD (by first|omega|(rw[zBS];omega)|rfl|assumption) ?_)
      refine Zr (by kernel_rfl) ⟨m+1+1,by omega,rfl,hne',fun k hk h6=> ?_,hx2⟩ ?_
      .by_cases hkm:k=m
       .subst hkm;omega
       .exact hso k hk (by omega)
      .show i-(((m+1:Nat):Int)+1).toNat<i-((m+1:Nat):Int).toNat;omega
  .obtain rfl:j=i:=by omega
   rw[bD (by omega)]at hne;simp only[hg4,hb2,coreS,aC,af,Nat.reduceAdd,Nat.reduceSub,Nat.reduceMul,Nat.reduceLeDiff,Int.reduceEq,Nat.reduceEqDiff,zOC];refine⟨fun hlt=>absurd hlt (by omega),fun _=> ?_⟩;have hc:chk acc cl es=0:=by
    rw[chk,if_neg (by omega),if_neg (by rintro(h6|h6);exact h6 ⟨by omega,by omega⟩;exact h6 hok),if_neg];rintro(h6|⟨e,he,h6⟩)
    .exact h6 fun k hk=>hso k hk (by omega)
    .exact hne e he h6
   exact⟨by rw[hc],hxe2⟩
end
end Go.Proofs.YtejmkibjpaoahaaGreatDoor
end
section
namespace Go.Proofs.YtejmkibjpaoahaaGreatDoor
open Go Go.Proofs Go.Eng Tab
set_option maxRecDepth 100000
set_option linter.unusedSimpArgs false
set_option linter.unusedVariables false
set_option maxHeartbeats 1000000
set_option linter.defProp false
def zO5:=(aD (aD @zRZ (aD @zVG @zR9)) (aD @zXy (aD @zTh @zWj)))
noncomputable def opn (acc cl:Int)(es:List En)(days:List Int):Int:=if chk acc cl es≠0 then chk acc cl es else if inB 0 30 days then 0 else 3
theorem zXz (acc cl:Int)(a:Option Addr)(n c:Nat)(es:List En)(b:Option Addr)(m k:Nat)(days:List Int)(h:Eng.Heap)(hr:Row h a (zOS es))(hn:n=es.length)(hl:n<=1000000)(hd:eu h b m days)(hm:m<=1000000):
 ak aF 46 #[.agg #[.int .i64 acc,.int .i64 cl,.slice a n c],.slice b m k] h (fun v h'=>Ext h h'/\
  ((opn acc cl es days=0/\∃g,v= .tuple #[.pointer (some ⟨g,0,none⟩),.int .i64 0]/\h'[g]? =some (.cells #[.int .i64 acc,.int .i64 cl,.slice a n c] 181)/\h.size<=g)\/
   (opn acc cl es days≠0/\v= .tuple #[.pointer none,.int .i64 (opn acc cl es days)]))):=by
 (refine Rm Tryz.func46 rfl zYd ?_;simp only[Tryz.ntmps46,Tryz.results46,coreS,U1,splice,aC,af,Nat.reduceAdd,Nat.reduceSub,Nat.reduceMul,Nat.reduceLeDiff,Int.reduceEq,Nat.reduceEqDiff,zO5])
 have x0:Ext h (h.push (.cells #[.int .i64 acc,.int .i64 cl,.slice a n c] 35)):=(Ext.refl h).push _;refine ak.mono (zRQ acc cl a n c es _ (hr.push _) hn hl) ?_;rintro v h1 ⟨rfl,x1⟩;have hb1:=x1.get (jD (h:=h));have y1:=x0.trans x1;by_cases hc:chk acc cl es=0
 .have e1:opn acc cl es days=if inB 0 30 days then 0 else 3:=by rw[opn,if_neg (by simpa using hc)]
  simp only[hc,coreS,aC,af,Nat.reduceAdd,Nat.reduceSub,Nat.reduceMul,Nat.reduceLeDiff,Int.reduceEq,Nat.reduceEqDiff,zO5];refine ak.mono (zPh 0 30 b m k days h1 (hd.ext y1) hm) ?_;rintro v h2 ⟨rfl,x2⟩;have hb2:=x2.get hb1;have y2:=y1.trans x2;cases hin:inB 0 30 days with
  |true=>
   rw[hin]at e1;simp only[hb2,splice,coreS,aC,af,Nat.reduceAdd,Nat.reduceSub,Nat.reduceMul,Nat.reduceLeDiff,Int.reduceEq,Nat.reduceEqDiff,zO5];exact⟨y2.push _,.inl ⟨by simpa using e1,h2.size,rfl,by simp,y2.size⟩⟩
  |false=>
   rw[hin]at e1;have e2:opn acc cl es days=3:=e1;simp only[hb2,coreS,aC,af,Nat.reduceAdd,Nat.reduceSub,Nat.reduceMul,Nat.reduceLeDiff,Int.reduceEq,Nat.reduceEqDiff,zO5];exact⟨y2,.inr ⟨by rw[e2];omega,by rw[e2]⟩⟩
 .have e1:opn acc cl es days=chk acc cl es:=by rw[opn,if_pos hc]
  simp only[hc,decide_false,bP,coreS,aC,af,Nat.reduceAdd,Nat.reduceSub,Nat.reduceMul,Nat.reduceLeDiff,Int.reduceEq,Nat.reduceEqDiff,zO5];exact⟨y1,.inr ⟨by rw[e1];exact hc,by rw[e1]⟩⟩
end Go.Proofs.YtejmkibjpaoahaaGreatDoor
end
section
namespace Go.Proofs.YtejmkibjpaoahaaGreatDoor
open Go Go.Proofs Go.Eng Tab
theorem zQx {acc cl:Int}{es:List En}(H:chk acc cl es=0):(2<=acc/\acc<=8)/\es.length<=20/\(0<=cl/\cl<=30)/\(∀e∈es,okE acc e)/\zPp es/\∀e∈es,e.f≠e.t:=by
 unfold chk at H;split at H
 .omega
 split at H
 .omega
 split at H
 .omega
 rename_i h1 h2 h3;rw[not_or]at h1 h2 h3;refine⟨mK.1 h1.1,by omega,mK.1 h2.1,mK.1 h2.2,mK.1 h3.1,fun e he hh=>h3.2 ⟨e,he,hh⟩⟩
theorem zYC {acc cl:Int}{es:List En}{days:List Int}(H:opn acc cl es days=0):chk acc cl es=0/\inB 0 30 days=true:=by
 unfold opn at H;split at H
 .rename_i h;exact absurd H h
 split at H
 .rename_i h1 h2;exact⟨mK.1 h1,h2⟩
 .omega
end Go.Proofs.YtejmkibjpaoahaaGreatDoor
end
section
set_option linter.unusedVariables false
set_option linter.unusedSimpArgs false
namespace Go.Eng
open Go
attribute [local semireducible] aI iP gP lm WP
section fork
variable {P:Program}{l:Option Nat}{R:Heap->Heap->Prop}{G:Nat->Bool}
theorem CX {all:List Oper}{i:Nat}{o:Oper}{e:Env}{d:List Deferred}{w1:World}{Kx:Env->Heap->Prop}{Kf:Act->World->Prop}(hi:all[i]? =some o)(hg:o.guard=none)
 (H:opW P o.op o.type e w1.heap (fun v h''=>R w1.heap h''/\Kx (aU e o.dst v) h'')) (fin:∀e' w',Rest w1 w'->Kx e' w'.heap->Kf ⟨e'.toArray,d⟩ w'):
 opD P all.toArray i (fun a' w'=>(G i=true->R w1.heap w'.heap)/\Rest w1 w'/\Kf a' w') ⟨e.toArray,d⟩ w1:=by
 have hi':all.toArray[i]? =some o:=by simpa using hi
 unfold opD;simp only[hi'];have hw:zbd o (yielded all.toArray e.toArray)=true:=by unfold zbd;rw[hg]
 simp only[hw,if_true];have h1:=aM H;unfold aI at h1;refine⟨h1.1,?_⟩;have h2:=h1.2 w1 rfl;rw[dY,bW];have fin':∀v w',Rest w1 w'->(R w1.heap w'.heap/\Kx (aU e o.dst v) w'.heap)->(G i=true->R w1.heap w'.heap)/\Rest w1 w'/\Kf ((Act.mk e.toArray d).put o.dst v) w':=by
  intro v w' hr' hk;refine⟨fun _=>hk.1,hr',?_⟩;rw[ay];exact fin _ _ hr' hk.2
 unfold dQ at h2;unfold fH;split at h2
 .exact⟨fin' _ _ h2.2 h2.1,h2.2⟩
 .exact⟨fin' _ _ h2.2 h2.1,h2.2⟩
 .exact⟨h2.1,Calls.mono h2.2 fun x w'' ⟨v,hx,hv,hr''⟩=>⟨v,hx,fin' v w'' (h2.1.trans hr'') hv,hr''⟩⟩
 .exact⟨h2.1,RoundIn.mono h2.2 fun x w'' ⟨v,hx,hv,hr''⟩=>⟨v,hx,fin' v w'' (h2.1.trans hr'') hv,hr''⟩⟩
 .exact h2.elim
def Jh (P:Program)(R:Heap->Heap->Prop)(all:List Oper)(rs:List (Nat×Nat))(k:aj)(a b:Option Oper)(e:Env)(d:List Deferred)(h:Heap):Prop:=
 match a,b with
 |some a,some b=>opW P a.op a.type e h (fun v h1=>R h h1/\∀h2,R h1 h2->opW P b.op b.type (aU e a.dst v) h2 (fun u h3=>R h2 h3/\bF P R all rs k (aU (aU e a.dst v) b.dst u) d h3))
 |_,_=>False
def jg (P:Program)(R:Heap->Heap->Prop)(all:List Oper)(x y:Nat)(rs:List (Nat×Nat)):List (Nat×Nat)->aj->Env->List Deferred->Heap->Prop
 |[],k,e,d,h=>∀h',R h h'->Jh P R all rs k all[x]? all[y]? e d h'/\Jh P R all rs k all[y]? all[x]? e d h'
 |(i,0)::rest,k,e,d,h=>match all[i]? with
  |some o=>ax o.guard all e (fun e=>dK P R o.op o.type e h (fun v h'=>jg P R all x y rs rest k (aU e o.dst v) d h')) (fun e=>jg P R all x y rs rest k (aU e o.dst undef) d h)
  |none=>False
 |(i,3)::rest,k,e,d,h=>match all[i]? with
  |some o=>ax o.guard all e (fun e=>fK P o.op e h (fun v h'=>jg P R all x y rs rest k (aU e o.dst v) d h')) (fun e=>jg P R all x y rs rest k (aU e o.dst undef) d h)
  |none=>False
 |_::_,_,_,_,_=>False
def okF (G:Nat->Bool)(all:List Oper)(x y:Nat)(rs:List (Nat×Nat)):List (Nat×Nat)->Array Bool->Bool
 |[],listed=>(decide (eO .any all.toArray listed=[x,y])&&(decide (eO .any all.toArray (listed.setIfInBounds x true)=[y])&&(decide (eO .any all.toArray (listed.setIfInBounds y true)=[x])&&(iZ G all rs ((listed.setIfInBounds x true).setIfInBounds y true)&&iZ G all rs ((listed.setIfInBounds y true).setIfInBounds x true)))))
 |(i,0)::rest,listed=>(eO .any all.toArray listed).contains i&&vQ all listed i (blk all listed i all.length 0 [])&&
  ((kD all.length).all fun j=>j==i||listed.getD j true||(blk all listed i all.length 0 []).contains j||(G j&&(match all[i]?,all[j]? with|some oi,some oj=>oi.apart all.toArray oj|_,_=>true)))&&
  okF G all x y rs rest (listed.setIfInBounds i true)
 |(i,3)::rest,listed=>(eO .any all.toArray listed).contains i&&vQ all listed i (blk all listed i all.length 0 [])&&
  ((kD all.length).all fun j=>j==i||listed.getD j true||(blk all listed i all.length 0 []).contains j||(match all[i]?,all[j]? with|some oi,some oj=>oi.apart all.toArray oj|_,_=>true))&&
  okF G all x y rs rest (listed.setIfInBounds i true)
 |_::_,_=>false
theorem Bj (hS:Sta R){all:List Oper}{k:aj}{w0:World}(hsel:yR all.toArray=true)(x y:Nat)(rs:List (Nat×Nat))(hgx:((all[x]?).map (·.guard))=some none)(hgy:((all[y]?).map (·.guard))=some none){listed:Array Bool}{e:Env}{d:List Deferred}{w w1:World}(hr:Rest w0 w)(hr1:Rest w w1)
 (hy:eO .any all.toArray (listed.setIfInBounds x true)=[y]) (hok:iZ G all rs ((listed.setIfInBounds x true).setIfInBounds y true)=true) (H:Jh P R all rs k all[x]? all[y]? e d w1.heap):
 opD P all.toArray x (fun a' w'=>(G x=true->R w1.heap w'.heap)/\Rest w1 w'/\lQ P all.toArray R G (fun a w'=>k .normal a.tmps.toList a.defers w'.heap/\Rest w0 w') (rs.length+1) (listed.setIfInBounds x true) a' w') ⟨e.toArray,d⟩ w1:=by
 cases hx:all[x]? with
 |none=>simp[hx]at hgx
 |some ox=>
  cases hyo:all[y]? with
  |none=>simp[hyo]at hgy
  |some oy=>
   simp only[hx,OY,Option.some.injEq]at hgx;simp only[hyo,OY,Option.some.injEq]at hgy;rw[hx,hyo]at H;unfold Jh at H;simp only at H;refine CX (Kx:=fun e1 h1=>∀h2,R h1 h2->opW P oy.op oy.type e1 h2 (fun u h3=>R h2 h3/\bF P R all rs k (aU e1 oy.dst u) d h3)) hx hgx H fun e1 w2 hr2 K1=> ?_
   intro w3 hr3 hR3;rw[hy];refine⟨fun h=>by simp at h,fun q hq=> ?_⟩;have hq:q=y:=by simpa using hq
   subst hq;exact CX (Kx:=fun e2 h3=>bF P R all rs k e2 d h3) hyo hgy (K1 _ hR3) fun e2 w4 hr4 K2=>dO hS hsel rs _ _ d w4 (((hr.trans hr1).trans hr2).trans (hr3.trans hr4)) hok K2
theorem jm (hS:Sta R){all:List Oper}{k:aj}{w0:World}(hsel:yR all.toArray=true)(x y:Nat)(rs:List (Nat×Nat))(hgx:((all[x]?).map (·.guard))=some none)(hgy:((all[y]?).map (·.guard))=some none):∀(pre:List (Nat×Nat)) (listed:Array Bool) (e:Env) (d:List Deferred) (w:World),Rest w0 w->
 okF G all x y rs pre listed=true->jg P R all x y rs pre k e d w.heap->
 lQ P all.toArray R G (fun a w'=>k .normal a.tmps.toList a.defers w'.heap/\Rest w0 w') (rs.length+2+pre.length) listed ⟨e.toArray,d⟩ w
 |[],listed,e,d,w,hr,hok,H=>by
  intro w1 hr1 hR1;simp only[okF,bR,decide_eq_true_eq,lw]at hok;obtain⟨h1,h2,h3,o1,o2⟩:=hok;obtain⟨A,B⟩:=H _ hR1;rw[h1];refine⟨fun h=>by simp at h,fun q hq=> ?_⟩;have hq:q=x\/q=y:=by simpa using hq
  rcases hq with rfl|rfl
  .exact Bj hS hsel q y rs hgx hgy hr hr1 h2 o1 A
  .exact Bj hS hsel q x rs hgy hgx hr hr1 h3 o2 B
 |(i,0)::rest,listed,e,d,w,hr,hok,H=>by
  simp only[okF,bR]at hok;obtain⟨⟨⟨hready,hbk⟩,hG⟩,hok⟩:=hok;unfold jg at H;cases hi:all[i]? with
  |none=>simp[hi]at H
  |some o=>
   simp only[hi]at H;have hi':all.toArray[i]? =some o:=by simpa using hi
   obtain⟨Bk,hBke⟩:∃Bk,Bk=blk all listed i all.length 0 []:=⟨_,rfl⟩;rw[<-hBke]at hbk hG;have hb1:∀j∈Bk,listed.getD j true=false:=fun j hj=>by
    have:=dS.1 hbk j hj;simp only[bR,lw]at this;exact this.1.1
   have hb2:∀j∈Bk,j≠i/\∀oj,all.toArray[j]? =some oj->∃e∈oj.after,OZ .any e=true/\(e.on=i\/e.on∈Bk):=fun j hj=>by
    have:=dS.1 hbk j hj;simp only[bR,bne_iff_ne,ne_eq]at this;refine⟨this.1.2,fun oj hoj=> ?_⟩;have hj2:all[j]? =some oj:=by simpa using hoj
    have h2:=this.2;rw[hj2]at h2;obtain⟨e,he,hb⟩:=yQ.1 h2;simp only[bR,kV,beq_iff_eq,iL,decide_eq_true_eq]at hb;exact⟨e,he,hb.1,hb.2⟩
   have hfr:∀j oj,all.toArray[j]? =some oj->j≠i->listed.getD j true=false->j∉Bk->o.apart all.toArray oj=true/\G j=true:=by
    intro j oj hj hne hun hno;have hlt:j<all.length:=by have:=(eP.1 hj).1;simpa using this
    have:=dS.1 hG j (zx.2 hlt);have hj2:all[j]? =some oj:=by simpa using hj
    simp only[hi,hj2,kV,bR,beq_iff_eq,hne,false_or,hun,kC,iL,decide_eq_true_eq,hno]at this;exact⟨this.2,this.1⟩
   have hrdy:i∈eO .any all.toArray listed:=by simpa using hready
   rcases dB H o rfl with⟨hw,hA⟩|⟨hw,hB⟩
   .have hq:=tV hS hA;unfold iP at hq;obtain⟨v,hv,hk⟩:=hq;refine ja hS hi' (ko hsel) Bk hb2 (rs.length+2+rest.length) listed _ w hfr hb1 hrdy (v:=v) ?_ ?_
    .refine .inl ⟨hw,fun w' hr' hR'=> ?_⟩;have h1:=hv _ hR';refine⟨h1.1,?_⟩;have h2:=h1.2 w' rfl;rw[dY,bW];unfold dQ at h2;unfold fH;split at h2
     .exact h2
     .exact h2
     .exact h2
     .exact h2
     .exact h2.elim
    .rw[ay];exact jm hS hsel x y rs hgx hgy rest _ _ d w hr hok hk
   .refine ja hS hi' (ko hsel) Bk hb2 (rs.length+2+rest.length) listed _ w hfr hb1 hrdy (v:=undef) (.inr ⟨hw,rfl⟩) ?_;rw[ay];exact jm hS hsel x y rs hgx hgy rest _ _ d w hr hok hB
 |(i,3)::rest,listed,e,d,w,hr,hok,H=>by
  simp only[okF,bR]at hok;obtain⟨⟨⟨hready,hbk⟩,hG⟩,hok⟩:=hok;unfold jg at H;cases hi:all[i]? with
  |none=>simp[hi]at H
  |some o=>
   simp only[hi]at H;have hi':all.toArray[i]? =some o:=by simpa using hi
   obtain⟨Bk,hBke⟩:∃Bk,Bk=blk all listed i all.length 0 []:=⟨_,rfl⟩;rw[<-hBke]at hbk hG;have hb1:∀j∈Bk,listed.getD j true=false:=fun j hj=>by
    have:=dS.1 hbk j hj;simp only[bR,lw]at this;exact this.1.1
   have hb2:∀j∈Bk,j≠i/\∀oj,all.toArray[j]? =some oj->∃e∈oj.after,OZ .any e=true/\(e.on=i\/e.on∈Bk):=fun j hj=>by
    have:=dS.1 hbk j hj;simp only[bR,bne_iff_ne,ne_eq]at this;refine⟨this.1.2,fun oj hoj=> ?_⟩;have hj2:all[j]? =some oj:=by simpa using hoj
    have h2:=this.2;rw[hj2]at h2;obtain⟨e,he,hb⟩:=yQ.1 h2;simp only[bR,kV,beq_iff_eq,iL,decide_eq_true_eq]at hb;exact⟨e,he,hb.1,hb.2⟩
   have hfr:∀j oj,all.toArray[j]? =some oj->j≠i->listed.getD j true=false->j∉Bk->o.apart all.toArray oj=true:=by
    intro j oj hj hne hun hno;have hlt:j<all.length:=by have:=(eP.1 hj).1;simpa using this
    have:=dS.1 hG j (zx.2 hlt);have hj2:all[j]? =some oj:=by simpa using hj
    simp only[hi,hj2,kV,bR,beq_iff_eq,hne,false_or,hun,kC,iL,decide_eq_true_eq,hno]at this;exact this
   have hrdy:i∈eO .any all.toArray listed:=by simpa using hready
   rcases dB H o rfl with⟨hw,hA⟩|⟨hw,hB⟩
   .obtain⟨hd,v,hk,hv⟩:=oD (ty:=o.type) hA;refine ig hS hi' (ko hsel) Bk hb2 (rs.length+2+rest.length) listed _ w hfr hb1 hrdy (v:=v) ?_ ?_
    .refine .inl ⟨hw,fun w' hr'=>⟨hd,?_⟩⟩;rw[dY,bW,hv w'];exact⟨⟨rfl,rfl⟩,Rest.refl _⟩
    .rw[ay];exact jm hS hsel x y rs hgx hgy rest _ _ d w hr hok hk
   .refine ig hS hi' (ko hsel) Bk hb2 (rs.length+2+rest.length) listed _ w hfr hb1 hrdy (v:=undef) (.inr ⟨hw,rfl⟩) ?_;rw[ay];exact jm hS hsel x y rs hgx hgy rest _ _ d w hr hok hB
 |(i,1)::rest,listed,e,d,w,hr,hok,H=>by simp[okF]at hok
 |(i,2)::rest,listed,e,d,w,hr,hok,H=>by simp[okF]at hok
 |(i,c+4)::rest,listed,e,d,w,hr,hok,H=>by simp[okF]at hok
theorem zBV (hm:P.follows .mixedOrders=true)(hS:Sta R){id:Nat}{all:List Oper}{k:aj}{e:Env}{d:List Deferred}{h:Heap}(x y:Nat)(pre rs:List (Nat×Nat))
 (hsel:yR all.toArray=true) (hgx:((all[x]?).map (·.guard))=some none) (hgy:((all[y]?).map (·.guard))=some none) (hlen:rs.length+2+pre.length=all.length) (hok:okF (fun j=>j==x||j==y||EA pre j||EA rs j) all x y rs pre (zaC all.length false)=true)
 (H:jg P R all x y rs pre k e d h):WP l P (.region id all.toArray true) k e d h:=by
 unfold WP;intro w hw;subst hw;refine wpIn_region_any hm ?_;have h1:=jm (w0:=w) (G:=fun j=>j==x||j==y||EA pre j||EA rs j) hS hsel x y rs hgx hgy pre _ e d {w with drawn:=w.drawn+1} ⟨rfl,rfl,rfl⟩ hok H;rw[hlen]at h1;have h2:=jc (l:=l) (Q':=fun x a w'=>k x a.tmps.toList a.defers w'.heap/\Rest w w') hS (fun a w' hq=>hq) _ _ _ _ h1;simpa using h2
variable {all:List Oper}{rest rs:List (Nat×Nat)}{k:aj}{e:Env}{d:List Deferred}{h:Heap}{dst:Option Tmp}{op:Op}{ty:TypeId}{pos:String}{after:Array Edge}{i x y:Nat}
def Le (P:Program)(R:Heap->Heap->Prop)(all:List Oper)(x y:Nat)(rs rest:List (Nat×Nat))(k:aj)(dst:Option Tmp)(e:Env)(d:List Deferred):Value->Heap->Prop:=fun v h=>jg P R all x y rs rest k (aU e dst v) d h
theorem zB8 {v:Value}:Le P R all x y rs rest k dst e d v h=jg P R all x y rs rest k (aU e dst v) d h:=eqi rfl
def stF (P:Program)(R:Heap->Heap->Prop)(o:Option Oper)(all:List Oper)(x y:Nat)(rs rest:List (Nat×Nat))(k:aj)(e:Env)(d:List Deferred)(h:Heap):Prop:=
 match o with
 |some o=>ax o.guard all e (fun e=>dK P R o.op o.type e h (fun v h'=>Le P R all x y rs rest k o.dst e d v h')) (fun e=>jg P R all x y rs rest k (aU e o.dst undef) d h)
 |none=>False
theorem Xi:jg P R all x y rs ((i,0)::rest) k e d h=stF P R all[i]? all x y rs rest k e d h:=by simp only[jg,stF,Le]
theorem Zo:stF P R (some ⟨dst,op,ty,pos,after,none⟩) all x y rs rest k e d h=dK P R op ty e h (Le P R all x y rs rest k dst e d):=by simp only[stF,ax]
theorem zAL (H:∀h',R h h'->Jh P R all rs k all[x]? all[y]? e d h'/\Jh P R all rs k all[y]? all[x]? e d h'):jg P R all x y rs [] k e d h:=H
theorem zBR {b:Oper}:Jh P R all rs k (some ⟨dst,op,ty,pos,after,none⟩) (some b) e d h=opW P op ty e h (fun v h1=>R h h1/\∀h2,R h1 h2->opW P b.op b.type (aU e dst v) h2 (fun u h3=>R h2 h3/\bF P R all rs k (aU (aU e dst v) b.dst u) d h3)):=by simp only[Jh]
end fork
section vals
variable {P:Program}{h:Heap}{er:Env}{ty:TypeId}{h0:Nat}
theorem YB {t t2 el e2 ct:TypeId}{s:Nat}(hu:P.underlying t=some (.slice el))(hu2:P.underlying t2=some (.slice e2))(hi:(P.info? el).isSome=true)(hsz:szT P el=s)
 {x y:Operand} {b:Option Addr} {g off n c m c2:Nat} {cur ys:List Value} {K:Value->Heap->Prop} (hx:ev er x= .slice (some ⟨g,off,none⟩) n c) (hy:ev er y= .slice b m c2) (hb:h[g]? =some (.cells cur.toArray ct (0,0))) (hl:off+n*s<=cur.length) (I:Row h b ys) (hyl:ys.length=m*s) (h1:∀u∈ys.take (n*s),u.oneCell'=true)
 (H:∀h',h'[g]? =some (.cells (splice cur off (ys.take (n*s))).toArray ct (0,0))->Upd h h' g->K (.int .i64 (min m n:Nat)) h'):aI P (.call ⟨.builtin .copy,#[x,y],#[t,t2]⟩) ty er h K:=by
 unfold aI;refine aD rfl fun w hw=> ?_
 subst hw;obtain⟨i,hi⟩:=yC.1 hi;have hsz:i.size=s:=by simpa[szT,hi]using hsz
 have hf:=qJ (P:=P) (w:=w) (c:=c2) (k:=min m n) I hyl (Nat.min_le_left _ _);have et:ys.take (min m n*s)=ys.take (n*s):=by
  rcases Nat.le_total m n with hmn|hmn
  .have:m*s<=n*s:=SL _ hmn;rw[Nat.min_eq_left hmn,bD (by omega),bD (by omega)]
  .rw[Nat.min_eq_right hmn]
 rw[et]at hf;have hlen:(ys.take (n*s)).length<=n*s:=by rw[List.length_take];omega
 have hst:=run_storeCells_at P g off ct (ys.take (n*s)) 0 cur.toArray w hb (by simp only[KN];omega) (fun x hx=>h1 x hx);simp only[zO]at hst;have e4:cur.toArray.toList.take off++ys.take (n*s)++cur.toArray.toList.drop (off+(ys.take (n*s)).length)=splice cur off (ys.take (n*s)):=by simp[splice]
 rw[e4]at hst;have h1:(Builtin.copy_ #[t,t2] ty #[.slice (some ⟨g,off,none⟩) n c,.slice b m c2]).run P w= .ok (.int .i64 (min m n:Nat)) (w.setRow g (splice cur off (ys.take (n*s))).toArray):=by
  have e5:Nat.min m n=min m n:=rfl;simp only[Builtin.copy_,Sem.run_bind,run_underlying hu,sizeOf,typeInfo];simp[run_underlying hu,hi,hsz,Builtin.lenOf,e5,hf,hst,goInt]
 have hargs: #[x,y].map (ev er)= #[.slice (some ⟨g,off,none⟩) n c,.slice b m c2]:=by simp[hx,hy]
 have:(execOp (ev er) {dst:=none,op:= .call ⟨.builtin .copy,#[x,y],#[t,t2]⟩,type:=ty,pos:= "",after:= #[],guard:=none}).run P w= .ok (.value (.int .i64 (min m n:Nat))) (w.setRow g (splice cur off (ys.take (n*s))).toArray):=by
  simp only[execOp,resolve,invoke,builtin,Sem.run_bind,Sem.run_pure,Result.andThen_ok,hargs,h1]
 rw[this];exact⟨H _ (setRow_heap hb _).1 (setRow_heap hb _).2,rfl,rfl,rfl⟩
theorem Un {t tn el:TypeId}{z:Value}{s:Nat}(hu:P.underlying t=some (.slice el))(hun:P.underlying tn=some (.int .i64))(hi:(P.info? el).isSome=true)(hsz:szT P el=s)(hz:dJ P el=some z)(hzs:z.cells.size=s)(hs:0<s)
 {x y:Operand} {a:Option Addr} {len cap k:Nat} {olds:List Value} {K:Value->Heap->Prop} (hx:ev er x= .slice a len cap) (hy:ev er y= .int .i64 (k:Nat)) (I:Row h a olds) (hol:olds.length=len*s) (hk:0<k) (hg:cap<len+k) (hb:len+k<=1000000) (hby:(len+k)*iA P el<=1000000) (h0h:h0<=h.size)
 (H:∀cap' h' zs,zs.length=k*s->iV h0 h' el s (some ⟨h.size,0,none⟩) (len+k) cap' (olds++zs)->Ext h h'->K (.slice (some ⟨h.size,0,none⟩) (len+k) cap') h'):aI P (.call ⟨.builtin .append,#[x,y],#[t,tn]⟩) ty er h K:=by
 unfold aI;refine aD rfl fun w hw=> ?_
 subst hw;obtain⟨i,hi⟩:=yC.1 hi;have hsz:i.size=s:=by simpa[szT,hi]using hsz
 have hz:i.zero=some z:=by simpa[dJ,hi]using hz
 have hby:(len+k)*i.bytes<=1000000:=by simpa[iA,hi]using hby
 have hkb:k*i.bytes<=(len+k)*i.bytes:=SL _ (by omega);have hf:(Builtin.firstCells i.size len (.slice a len cap)).run P w.drew= .ok olds.toArray w.drew:=by
  have:=qJ (P:=P) (w:=w.drew) (c:=cap) (k:=len) (s:=s) (b:=a) (m:=len) (vs:=olds) I hol (Nat.le_refl _);rw[bD (by omega)]at this;rw[hsz];exact this
 have g1:=Lib.run_append_grow_zeros (P:=P) w t tn ty el i z .i64 .i64 hu hun hi hz a len cap olds hf k hk (by omega) hg (by omega) (by omega) (growslice_fits (bytes:=i.bytes) hg (by omega));have hge:=grownCap_ge w (len+k) cap el;have hargs: #[x,y].map (ev er)= #[.slice a len cap,.int .i64 (k:Nat)]:=by simp[hx,hy]
 have key:∀v w',(Builtin.append_ #[t,tn] ty #[.slice a len cap,.int .i64 (k:Nat)]).run P w= .ok v w'->Rest w w'->K v w'.heap->
  dQ P w K ((execOp (ev er) {dst:=none,op:= .call ⟨.builtin .append,#[x,y],#[t,tn]⟩,type:=ty,pos:= "",after:= #[],guard:=none}).run P w):=by
  intro v w' h1 h2 h3;have:(execOp (ev er) {dst:=none,op:= .call ⟨.builtin .append,#[x,y],#[t,tn]⟩,type:=ty,pos:= "",after:= #[],guard:=none}).run P w= .ok (.value v) w':=by
   simp only[execOp,resolve,invoke,builtin,Sem.run_bind,Sem.run_pure,Result.andThen_ok,hargs,h1]
  rw[this];exact⟨h3,h2⟩
 have hzl:(Builtin.zeroCells z.cells k).size=k*s:=by rw[iF,hzs]
 refine key _ _ g1 ⟨rfl,rfl,rfl⟩ (H (grownCap w (len+k) cap el) _ (Builtin.zeroCells z.cells k).toList (by simpa using hzl) ⟨by rw[cK,hol,Array.length_toList,hzl,Md],.inr ⟨w.heap.size,_,rfl,h0h,jD,?_,hge,?_⟩⟩ ((Ext.refl _).push _))
 .have e1:(len+k)*s+(grownCap w (len+k) cap el-(len+k))*s=grownCap w (len+k) cap el*s:=by rw[<-Md];congr 1;omega
  simp only[Array.size_append,KN,iF,hzs,hol,Md]at e1 ⊢;omega
 .simp only[Array.toList_append,List.toList_toArray];rw[List.take_append_of_le_length (by simp[hol,hzl,Md]),bD (by simp[hol,hzl,Md])]
end vals
end Go.Eng
end
section
set_option linter.unusedVariables false
set_option linter.unusedSimpArgs false
namespace Go.Eng
open Go
attribute [local semireducible] aI iP gP lm WP
inductive PT where
 |fin
 |quiet (i:Nat) (r:PT)
 |pure (i:Nat) (r:PT)
 |one (i:Nat) (r:PT)
 |keep (i:Nat) (r:PT)
 |fork (x y:Nat) (a b:PT)
 |yo (x y:Nat) (u v:Bool) (a b:PT)
 |lu (x y z:Nat) (u v w:Bool) (a b c:PT)
def PT.size:PT->Nat
 | .fin=>0
 | .quiet _ r| .pure _ r| .one _ r| .keep _ r=>r.size+1
 | .fork _ _ a _=>a.size+1
 | .yo _ _ _ _ a _=>a.size+1
 | .lu _ _ _ _ _ _ a _ _=>a.size+1
def PT.G:PT->Nat->Bool
 | .fin,_=>true
 | .quiet _ r,j| .pure _ r,j| .keep _ r,j=>r.G j
 | .one i r,j=> !(i==j)&&r.G j
 | .fork _ _ a b,j=>a.G j&&b.G j
 | .yo x y u v a b,j=>(u|| !(x==j))&&((v|| !(y==j))&&(a.G j&&b.G j))
 | .lu x y z u v w a b c,j=>(u|| !(x==j))&&((v|| !(y==j))&&((w|| !(z==j))&&(a.G j&&(b.G j&&c.G j))))
section tree
variable {P:Program}{l:Option Nat}{R:Heap->Heap->Prop}{G:Nat->Bool}
theorem VG {all:List Oper}{i:Nat}{o:Oper}{e:Env}{d:List Deferred}{w1:World}{Kx:Env->Heap->Prop}{Kf:Act->World->Prop}(hi:all[i]? =some o)
 (H:ax o.guard all e (fun e=>opW P o.op o.type e w1.heap (fun v h''=>(G i=true->R w1.heap h'')/\Kx (aU e o.dst v) h'')) (fun e=>(G i=true->R w1.heap w1.heap)/\Kx (aU e o.dst undef) w1.heap)) (fin:∀e' w',Rest w1 w'->Kx e' w'.heap->Kf ⟨e'.toArray,d⟩ w'):
 opD P all.toArray i (fun a' w'=>(G i=true->R w1.heap w'.heap)/\Rest w1 w'/\Kf a' w') ⟨e.toArray,d⟩ w1:=by
 have hi':all.toArray[i]? =some o:=by simpa using hi
 unfold opD;simp only[hi'];rcases dB H o rfl with⟨hw,hA⟩|⟨hw,hB⟩
 .simp only[hw,if_true];have h1:=aM hA;unfold aI at h1;refine⟨h1.1,?_⟩;have h2:=h1.2 w1 rfl;rw[dY,bW];have fin':∀v w',Rest w1 w'->((G i=true->R w1.heap w'.heap)/\Kx (aU e o.dst v) w'.heap)->(G i=true->R w1.heap w'.heap)/\Rest w1 w'/\Kf ((Act.mk e.toArray d).put o.dst v) w':=by
   intro v w' hr' hk;refine⟨hk.1,hr',?_⟩;rw[ay];exact fin _ _ hr' hk.2
  unfold dQ at h2;unfold fH;split at h2
  .exact⟨fin' _ _ h2.2 h2.1,h2.2⟩
  .exact⟨fin' _ _ h2.2 h2.1,h2.2⟩
  .exact⟨h2.1,Calls.mono h2.2 fun x w'' ⟨v,hx,hv,hr''⟩=>⟨v,hx,fin' v w'' (h2.1.trans hr'') hv,hr''⟩⟩
  .exact⟨h2.1,RoundIn.mono h2.2 fun x w'' ⟨v,hx,hv,hr''⟩=>⟨v,hx,fin' v w'' (h2.1.trans hr'') hv,hr''⟩⟩
  .exact h2.elim
 .simp only[hw];refine⟨hB.1,Rest.refl _,?_⟩;rw[ay];exact fin _ _ (Rest.refl _) hB.2
def stO (P:Program)(all:List Oper)(o:Option Oper)(e:Env)(h:Heap)(K:Env->Heap->Prop):Prop:=
 match o with
 |some o=>ax o.guard all e (fun e=>opW P o.op o.type e h (fun v h'=>K (aU e o.dst v) h')) (fun e=>K (aU e o.dst undef) h)
 |none=>False
def ah (P:Program)(R:Heap->Heap->Prop)(all:List Oper):PT->aj->Env->List Deferred->Heap->Prop
 | .fin,k,e,d,h=>∀h',R h h'->k .normal e d h'
 | .quiet i rest,k,e,d,h=>match all[i]? with
   |some o=>ax o.guard all e (fun e=>dK P R o.op o.type e h (fun v h'=>ah P R all rest k (aU e o.dst v) d h')) (fun e=>ah P R all rest k (aU e o.dst undef) d h)
   |none=>False
 | .pure i rest,k,e,d,h=>match all[i]? with
   |some o=>ax o.guard all e (fun e=>fK P o.op e h (fun v h'=>ah P R all rest k (aU e o.dst v) d h')) (fun e=>ah P R all rest k (aU e o.dst undef) d h)
   |none=>False
 | .one i rest,k,e,d,h=>∀h',R h h'->stO P all all[i]? e h' (fun e h''=>ah P R all rest k e d h'')
 | .keep i rest,k,e,d,h=>∀h',R h h'->stO P all all[i]? e h' (fun e h''=>R h' h''/\ah P R all rest k e d h'')
 | .fork x y a b,k,e,d,h=>∀h',R h h'->stO P all all[x]? e h' (fun e h''=>R h' h''/\ah P R all a k e d h'')/\stO P all all[y]? e h' (fun e h''=>R h' h''/\ah P R all b k e d h'')
 | .yo x y u v a b,k,e,d,h=>∀h',R h h'->stO P all all[x]? e h' (fun e h''=>(u=true->R h' h'')/\ah P R all a k e d h'')/\stO P all all[y]? e h' (fun e h''=>(v=true->R h' h'')/\ah P R all b k e d h'')
 | .lu x y z u v t a b c,k,e,d,h=>∀h',R h h'->stO P all all[x]? e h' (fun e h''=>(u=true->R h' h'')/\ah P R all a k e d h'')/\stO P all all[y]? e h' (fun e h''=>(v=true->R h' h'')/\ah P R all b k e d h'')/\stO P all all[z]? e h' (fun e h''=>(t=true->R h' h'')/\ah P R all c k e d h'')
def okT (G:Nat->Bool)(all:List Oper):PT->Array Bool->Bool
 | .fin,listed=>(eO .any all.toArray listed).isEmpty
 | .quiet i rest,listed=>(eO .any all.toArray listed).contains i&&vQ all listed i (blk all listed i all.length 0 [])&&
  ((kD all.length).all fun j=>j==i||listed.getD j true||(blk all listed i all.length 0 []).contains j||(G j&&(match all[i]?,all[j]? with|some oi,some oj=>oi.apart all.toArray oj|_,_=>true)))&&
  okT G all rest (listed.setIfInBounds i true)
 | .pure i rest,listed=>(eO .any all.toArray listed).contains i&&vQ all listed i (blk all listed i all.length 0 [])&&
  ((kD all.length).all fun j=>j==i||listed.getD j true||(blk all listed i all.length 0 []).contains j||(match all[i]?,all[j]? with|some oi,some oj=>oi.apart all.toArray oj|_,_=>true))&&
  okT G all rest (listed.setIfInBounds i true)
 | .one i rest,listed=> !(G i)&&decide (eO .any all.toArray listed=[i])&&okT G all rest (listed.setIfInBounds i true)
 | .keep i rest,listed=>decide (eO .any all.toArray listed=[i])&&okT G all rest (listed.setIfInBounds i true)
 | .fork x y a b,listed=>decide (eO .any all.toArray listed=[x,y])&&(decide (a.size=b.size)&&(okT G all a (listed.setIfInBounds x true)&&okT G all b (listed.setIfInBounds y true)))
 | .yo x y u v a b,listed=>(u|| !(G x))&&((v|| !(G y))&&(decide (eO .any all.toArray listed=[x,y])&&(decide (a.size=b.size)&&(okT G all a (listed.setIfInBounds x true)&&okT G all b (listed.setIfInBounds y true)))))
 | .lu x y z u v t a b c,listed=>(u|| !(G x))&&((v|| !(G y))&&((t|| !(G z))&&(decide (eO .any all.toArray listed=[x,y,z])&&(decide (a.size=b.size)&&(decide (a.size=c.size)&&(okT G all a (listed.setIfInBounds x true)&&(okT G all b (listed.setIfInBounds y true)&&okT G all c (listed.setIfInBounds z true))))))))
theorem dU {all:List Oper}{i:Nat}{e:Env}{d:List Deferred}{w1:World}{Kx:Env->Heap->Prop}{Kf:Act->World->Prop}(H:stO P all all[i]? e w1.heap (fun e h''=>(G i=true->R w1.heap h'')/\Kx e h''))(fin:∀e' w',Rest w1 w'->Kx e' w'.heap->Kf ⟨e'.toArray,d⟩ w'):
 opD P all.toArray i (fun a' w'=>(G i=true->R w1.heap w'.heap)/\Rest w1 w'/\Kf a' w') ⟨e.toArray,d⟩ w1:=by
 cases hi:all[i]? with
 |none=>rw[hi]at H;exact H.elim
 |some o=>rw[hi]at H;exact VG (Kx:=Kx) hi H fin
theorem JY {gd:Option (Nat×Bool)}{all:List Oper}{e:Env}{A A' B B':Env->Prop}(ha:∀e,A e->A' e)(hb:∀e,B e->B' e)(H:ax gd all e A B):ax gd all e A' B':=by
 cases gd with
 |none=>unfold ax at H ⊢;exact ha _ H
 |some p=>
  obtain⟨j,want⟩:=p;unfold ax at H ⊢;simp only at H ⊢;cases hj:fQ all j with
  |none=>simp only[hj]at H ⊢;exact hb _ H
  |some t=>
   simp only[hj]at H ⊢;unfold au at H ⊢;cases hv:e.getD t undef with
   |bool b=>
    simp only[hv]at H ⊢;refine⟨fun h1=> ?_,fun h1=> ?_⟩
    .have h2:=H.1 h1;by_cases hw:true=want
     .rw[if_pos hw]at h2 ⊢;exact ha _ h2
     .rw[if_neg hw]at h2 ⊢;exact hb _ h2
    .have h2:=H.2 h1;by_cases hw:false=want
     .rw[if_pos hw]at h2 ⊢;exact ha _ h2
     .rw[if_neg hw]at h2 ⊢;exact hb _ h2
   |_=>first|(simp only[hv]at H ⊢;done)|(simp only[hv]at H ⊢;exact hb _ H)
theorem fC {all:List Oper}{o:Option Oper}{e:Env}{h:Heap}{K K':Env->Heap->Prop}(H:stO P all o e h K)(hk:∀e h,K e h->K' e h):stO P all o e h K':=by
 cases o with
 |none=>exact H.elim
 |some o=>exact JY (fun e he=>BG (fun v h hv=>hk _ _ hv) he) (fun e he=>hk _ _ he) H
theorem bf (hS:Sta R){all:List Oper}{k:aj}{w0:World}(hsel:yR all.toArray=true):∀(t:PT) (listed:Array Bool) (e:Env) (d:List Deferred) (w:World),Rest w0 w->
 okT G all t listed=true->ah P R all t k e d w.heap->
 lQ P all.toArray R G (fun a w'=>k .normal a.tmps.toList a.defers w'.heap/\Rest w0 w') t.size listed ⟨e.toArray,d⟩ w
 | .fin,listed,e,d,w,hr,hok,H=>fun w1 hr1 hR1=>by
   refine⟨by simpa[okT]using hok,?_,hr.trans hr1⟩;simpa using H _ hR1
 | .quiet i rest,listed,e,d,w,hr,hok,H=>by
   simp only[okT,bR]at hok;obtain⟨⟨⟨hready,hbk⟩,hG⟩,hok⟩:=hok;unfold ah at H;cases hi:all[i]? with
   |none=>simp[hi]at H
   |some o=>
    simp only[hi]at H;have hi':all.toArray[i]? =some o:=by simpa using hi
    obtain⟨Bk,hBke⟩:∃Bk,Bk=blk all listed i all.length 0 []:=⟨_,rfl⟩;rw[<-hBke]at hbk hG;have hb1:∀j∈Bk,listed.getD j true=false:=fun j hj=>by
     have:=dS.1 hbk j hj;simp only[bR,lw]at this;exact this.1.1
    have hb2:∀j∈Bk,j≠i/\∀oj,all.toArray[j]? =some oj->∃e∈oj.after,OZ .any e=true/\(e.on=i\/e.on∈Bk):=fun j hj=>by
     have:=dS.1 hbk j hj;simp only[bR,bne_iff_ne,ne_eq]at this;refine⟨this.1.2,fun oj hoj=> ?_⟩;have hj2:all[j]? =some oj:=by simpa using hoj
     have h2:=this.2;rw[hj2]at h2;obtain⟨e,he,hb⟩:=yQ.1 h2;simp only[bR,kV,beq_iff_eq,iL,decide_eq_true_eq]at hb;exact⟨e,he,hb.1,hb.2⟩
    have hfr:∀j oj,all.toArray[j]? =some oj->j≠i->listed.getD j true=false->j∉Bk->o.apart all.toArray oj=true/\G j=true:=by
     intro j oj hj hne hun hno;have hlt:j<all.length:=by have:=(eP.1 hj).1;simpa using this
     have:=dS.1 hG j (zx.2 hlt);have hj2:all[j]? =some oj:=by simpa using hj
     simp only[hi,hj2,kV,bR,beq_iff_eq,hne,false_or,hun,kC,iL,decide_eq_true_eq,hno]at this;exact⟨this.2,this.1⟩
    have hrdy:i∈eO .any all.toArray listed:=by simpa using hready
    rcases dB H o rfl with⟨hw,hA⟩|⟨hw,hB⟩
    .have hq:=tV hS hA;unfold iP at hq;obtain⟨v,hv,hk⟩:=hq;refine ja hS hi' (ko hsel) Bk hb2 rest.size listed _ w hfr hb1 hrdy (v:=v) ?_ ?_
     .refine .inl ⟨hw,fun w' hr' hR'=> ?_⟩;have h1:=hv _ hR';refine⟨h1.1,?_⟩;have h2:=h1.2 w' rfl;rw[dY,bW];unfold dQ at h2;unfold fH;split at h2
      .exact h2
      .exact h2
      .exact h2
      .exact h2
      .exact h2.elim
     .rw[ay];exact bf hS hsel rest _ _ d w hr hok hk
    .refine ja hS hi' (ko hsel) Bk hb2 rest.size listed _ w hfr hb1 hrdy (v:=undef) (.inr ⟨hw,rfl⟩) ?_;rw[ay];exact bf hS hsel rest _ _ d w hr hok hB
 | .pure i rest,listed,e,d,w,hr,hok,H=>by
   simp only[okT,bR]at hok;obtain⟨⟨⟨hready,hbk⟩,hG⟩,hok⟩:=hok;unfold ah at H;cases hi:all[i]? with
   |none=>simp[hi]at H
   |some o=>
    simp only[hi]at H;have hi':all.toArray[i]? =some o:=by simpa using hi
    obtain⟨Bk,hBke⟩:∃Bk,Bk=blk all listed i all.length 0 []:=⟨_,rfl⟩;rw[<-hBke]at hbk hG;have hb1:∀j∈Bk,listed.getD j true=false:=fun j hj=>by
     have:=dS.1 hbk j hj;simp only[bR,lw]at this;exact this.1.1
    have hb2:∀j∈Bk,j≠i/\∀oj,all.toArray[j]? =some oj->∃e∈oj.after,OZ .any e=true/\(e.on=i\/e.on∈Bk):=fun j hj=>by
     have:=dS.1 hbk j hj;simp only[bR,bne_iff_ne,ne_eq]at this;refine⟨this.1.2,fun oj hoj=> ?_⟩;have hj2:all[j]? =some oj:=by simpa using hoj
     have h2:=this.2;rw[hj2]at h2;obtain⟨e,he,hb⟩:=yQ.1 h2;simp only[bR,kV,beq_iff_eq,iL,decide_eq_true_eq]at hb;exact⟨e,he,hb.1,hb.2⟩
    have hfr:∀j oj,all.toArray[j]? =some oj->j≠i->listed.getD j true=false->j∉Bk->o.apart all.toArray oj=true:=by
     intro j oj hj hne hun hno;have hlt:j<all.length:=by have:=(eP.1 hj).1;simpa using this
     have:=dS.1 hG j (zx.2 hlt);have hj2:all[j]? =some oj:=by simpa using hj
     simp only[hi,hj2,kV,bR,beq_iff_eq,hne,false_or,hun,kC,iL,decide_eq_true_eq,hno]at this;exact this
    have hrdy:i∈eO .any all.toArray listed:=by simpa using hready
    rcases dB H o rfl with⟨hw,hA⟩|⟨hw,hB⟩
    .obtain⟨hd,v,hk,hv⟩:=oD (ty:=o.type) hA;refine ig hS hi' (ko hsel) Bk hb2 rest.size listed _ w hfr hb1 hrdy (v:=v) ?_ ?_
     .refine .inl ⟨hw,fun w' hr'=>⟨hd,?_⟩⟩;rw[dY,bW,hv w'];exact⟨⟨rfl,rfl⟩,Rest.refl _⟩
     .rw[ay];exact bf hS hsel rest _ _ d w hr hok hk
    .refine ig hS hi' (ko hsel) Bk hb2 rest.size listed _ w hfr hb1 hrdy (v:=undef) (.inr ⟨hw,rfl⟩) ?_;rw[ay];exact bf hS hsel rest _ _ d w hr hok hB
 | .one i rest,listed,e,d,w,hr,hok,H=>by
   intro w1 hr1 hR1;simp only[okT,bR,decide_eq_true_eq,lw]at hok;obtain⟨⟨hG,h1⟩,hok⟩:=hok;rw[h1];refine⟨fun h=>by simp at h,fun q hq=> ?_⟩;have hq:q=i:=by simpa using hq
   subst hq;refine dU (Kx:=fun e h''=>ah P R all rest k e d h'') (fC (H _ hR1) fun e h hk=>⟨fun hh=>(by rw[hG]at hh;cases hh),hk⟩) fun e2 w2 hr2 K2=> ?_
   exact bf hS hsel rest _ _ d w2 (hr.trans (hr1.trans hr2)) hok K2
 | .keep i rest,listed,e,d,w,hr,hok,H=>by
   intro w1 hr1 hR1;simp only[okT,bR,decide_eq_true_eq]at hok;obtain⟨h1,hok⟩:=hok;rw[h1];refine⟨fun h=>by simp at h,fun q hq=> ?_⟩;have hq:q=i:=by simpa using hq
   subst hq;refine dU (Kx:=fun e h''=>ah P R all rest k e d h'') (fC (H _ hR1) fun e h hk=>⟨fun _=>hk.1,hk.2⟩) fun e2 w2 hr2 K2=> ?_
   exact bf hS hsel rest _ _ d w2 (hr.trans (hr1.trans hr2)) hok K2
 | .fork x y a b,listed,e,d,w,hr,hok,H=>by
   intro w1 hr1 hR1;simp only[okT,bR,decide_eq_true_eq]at hok;obtain⟨h1,h2,o1,o2⟩:=hok;obtain⟨A,B⟩:=H _ hR1;rw[h1];refine⟨fun h=>by simp at h,fun q hq=> ?_⟩;have hq:q=x\/q=y:=by simpa using hq
   rcases hq with rfl|rfl
   .refine dU (Kx:=fun e h''=>ah P R all a k e d h'') (fC A fun e h hk=>⟨fun _=>hk.1,hk.2⟩) fun e2 w2 hr2 K2=> ?_
    exact bf hS hsel a _ _ d w2 (hr.trans (hr1.trans hr2)) o1 K2
   .refine dU (Kx:=fun e h''=>ah P R all b k e d h'') (fC B fun e h hk=>⟨fun _=>hk.1,hk.2⟩) fun e2 w2 hr2 K2=> ?_
    have:=bf (w0:=w0) hS hsel b _ _ d w2 (hr.trans (hr1.trans hr2)) o2 K2;rw[<-h2]at this;exact this
 | .yo x y u v a b,listed,e,d,w,hr,hok,H=>by
   intro w1 hr1 hR1;simp only[okT,bR,decide_eq_true_eq,kV,lw]at hok;obtain⟨gx,gy,h1,h2,o1,o2⟩:=hok;obtain⟨A,B⟩:=H _ hR1;rw[h1];refine⟨fun h=>by simp at h,fun q hq=> ?_⟩;have hq:q=x\/q=y:=by simpa using hq
   rcases hq with rfl|rfl
   .refine dU (Kx:=fun e h''=>ah P R all a k e d h'') (fC A fun e h hk=>⟨fun hh=>hk.1 (gx.resolve_right (by rw[hh];decide)),hk.2⟩) fun e2 w2 hr2 K2=> ?_
    exact bf hS hsel a _ _ d w2 (hr.trans (hr1.trans hr2)) o1 K2
   .refine dU (Kx:=fun e h''=>ah P R all b k e d h'') (fC B fun e h hk=>⟨fun hh=>hk.1 (gy.resolve_right (by rw[hh];decide)),hk.2⟩) fun e2 w2 hr2 K2=> ?_
    have:=bf (w0:=w0) hS hsel b _ _ d w2 (hr.trans (hr1.trans hr2)) o2 K2;rw[<-h2]at this;exact this
 | .lu x y z u v t a b c,listed,e,d,w,hr,hok,H=>by
   intro w1 hr1 hR1;simp only[okT,bR,decide_eq_true_eq,kV,lw]at hok;obtain⟨gx,gy,gz,h1,h2,h3,o1,o2,o3⟩:=hok;obtain⟨A,B,C⟩:=H _ hR1;rw[h1];refine⟨fun h=>by simp at h,fun q hq=> ?_⟩;have hq:q=x\/q=y\/q=z:=by simpa using hq
   rcases hq with rfl|rfl|rfl
   .refine dU (Kx:=fun e h''=>ah P R all a k e d h'') (fC A fun e h hk=>⟨fun hh=>hk.1 (gx.resolve_right (by rw[hh];decide)),hk.2⟩) fun e2 w2 hr2 K2=> ?_
    exact bf hS hsel a _ _ d w2 (hr.trans (hr1.trans hr2)) o1 K2
   .refine dU (Kx:=fun e h''=>ah P R all b k e d h'') (fC B fun e h hk=>⟨fun hh=>hk.1 (gy.resolve_right (by rw[hh];decide)),hk.2⟩) fun e2 w2 hr2 K2=> ?_
    have:=bf (w0:=w0) hS hsel b _ _ d w2 (hr.trans (hr1.trans hr2)) o2 K2;rw[<-h2]at this;exact this
   .refine dU (Kx:=fun e h''=>ah P R all c k e d h'') (fC C fun e h hk=>⟨fun hh=>hk.1 (gz.resolve_right (by rw[hh];decide)),hk.2⟩) fun e2 w2 hr2 K2=> ?_
    have:=bf (w0:=w0) hS hsel c _ _ d w2 (hr.trans (hr1.trans hr2)) o3 K2;rw[<-h3]at this;exact this
theorem zB7 (hm:P.follows .mixedOrders=true)(hS:Sta R){id:Nat}{all:List Oper}{k:aj}{e:Env}{d:List Deferred}{h:Heap}(t:PT)
 (hsel:yR all.toArray=true) (hlen:t.size=all.length) (hok:okT t.G all t (zaC all.length false)=true)
 (H:ah P R all t k e d h):WP l P (.region id all.toArray true) k e d h:=by
 unfold WP;intro w hw;subst hw;refine wpIn_region_any hm ?_;have h1:=bf (w0:=w) (G:=t.G) hS hsel t _ e d {w with drawn:=w.drawn+1} ⟨rfl,rfl,rfl⟩ hok H;rw[hlen]at h1;have h2:=jc (l:=l) (Q':=fun x a w'=>k x a.tmps.toList a.defers w'.heap/\Rest w w') hS (fun a w' hq=>hq) _ _ _ _ h1;simpa using h2
variable {all:List Oper}{rest:PT}{k:aj}{e:Env}{d:List Deferred}{h:Heap}{dst:Option Tmp}{op:Op}{ty:TypeId}{pos:String}{after:Array Edge}{i x y:Nat}{a b:PT}
def xV (P:Program)(R:Heap->Heap->Prop)(all:List Oper)(rest:PT)(k:aj)(dst:Option Tmp)(e:Env)(d:List Deferred):Value->Heap->Prop:=fun v h=>ah P R all rest k (aU e dst v) d h
theorem Wt {v:Value}:xV P R all rest k dst e d v h=ah P R all rest k (aU e dst v) d h:=eqi rfl
def stT (P:Program)(R:Heap->Heap->Prop)(o:Option Oper)(all:List Oper)(rest:PT)(k:aj)(e:Env)(d:List Deferred)(h:Heap):Prop:=
 match o with
 |some o=>ax o.guard all e (fun e=>dK P R o.op o.type e h (fun v h'=>xV P R all rest k o.dst e d v h')) (fun e=>ah P R all rest k (aU e o.dst undef) d h)
 |none=>False
theorem JQ:ah P R all (.quiet i rest) k e d h=stT P R all[i]? all rest k e d h:=by simp only[ah,stT,xV]
theorem QX:stT P R (some ⟨dst,op,ty,pos,after,none⟩) all rest k e d h=dK P R op ty e h (xV P R all rest k dst e d):=by simp only[stT,ax]
def Pj (P:Program)(R:Heap->Heap->Prop)(o:Option Oper)(all:List Oper)(rest:PT)(k:aj)(e:Env)(d:List Deferred)(h:Heap):Prop:=
 match o with
 |some o=>ax o.guard all e (fun e=>fK P o.op e h (fun v h'=>xV P R all rest k o.dst e d v h')) (fun e=>ah P R all rest k (aU e o.dst undef) d h)
 |none=>False
theorem Kb:ah P R all (.pure i rest) k e d h=Pj P R all[i]? all rest k e d h:=by simp only[ah,Pj,xV]
theorem LH:Pj P R (some ⟨dst,op,ty,pos,after,none⟩) all rest k e d h=fK P op e h (xV P R all rest k dst e d):=by simp only[Pj,ax]
theorem Q8 {K:Env->Heap->Prop}:stO P all (some ⟨dst,op,ty,pos,after,none⟩) e h K=opW P op ty e h (fun v h'=>K (aU e dst v) h'):=by simp only[stO,ax]
def gtT (P:Program)(R:Heap->Heap->Prop)(v:Value)(s:Tmp)(want:Bool)(op:Op)(ty:TypeId)(all:List Oper)(rest:PT)(k:aj)(dst:Option Tmp)(e:Env)(d:List Deferred)(h:Heap):Prop:=
 au v (fun b=>if b=want then dK P R op ty (e.set s (.bool b)) h (xV P R all rest k dst (e.set s (.bool b)) d)else ah P R all rest k (aU (e.set s (.bool b)) dst undef) d h) (ah P R all rest k (aU e dst undef) d h)
def Y5 (P:Program)(R:Heap->Heap->Prop)(s:Option Tmp)(want:Bool)(op:Op)(ty:TypeId)(all:List Oper)(rest:PT)(k:aj)(dst:Option Tmp)(e:Env)(d:List Deferred)(h:Heap):Prop:=
 match s with|some s=>gtT P R (e.getD s undef) s want op ty all rest k dst e d h|none=>ah P R all rest k (aU e dst undef) d h
theorem RN {j:Nat}{want:Bool}:stT P R (some ⟨dst,op,ty,pos,after,some (j,want)⟩) all rest k e d h=Y5 P R (fQ all j) want op ty all rest k dst e d h:=by
 simp only[stT,ax,Y5];cases fQ all j<;>rfl
theorem Q4 {s:Tmp}{want:Bool}:Y5 P R (some s) want op ty all rest k dst e d h=gtT P R (e.getD s undef) s want op ty all rest k dst e d h:=eqi rfl
theorem Y8 {s:Tmp}:gtT P R (.bool true) s true op ty all rest k dst e d h=dK P R op ty (e.set s (.bool true)) h (xV P R all rest k dst (e.set s (.bool true)) d):=by simp[gtT,au]
theorem Xy {s:Tmp}:gtT P R (.bool false) s false op ty all rest k dst e d h=dK P R op ty (e.set s (.bool false)) h (xV P R all rest k dst (e.set s (.bool false)) d):=by simp[gtT,au]
theorem Y6 {s:Tmp}:gtT P R (.bool true) s false op ty all rest k dst e d h=ah P R all rest k (aU (e.set s (.bool true)) dst undef) d h:=by simp[gtT,au]
theorem Ya {s:Tmp}:gtT P R (.bool false) s true op ty all rest k dst e d h=ah P R all rest k (aU (e.set s (.bool false)) dst undef) d h:=by simp[gtT,au]
theorem QD {s:Tmp}{w:Bool}{vs:Array Value}:gtT P R (.tuple vs) s w op ty all rest k dst e d h=ah P R all rest k (aU e dst undef) d h:=by simp[gtT,au]
def gtP (P:Program)(R:Heap->Heap->Prop)(v:Value)(s:Tmp)(want:Bool)(op:Op)(all:List Oper)(rest:PT)(k:aj)(dst:Option Tmp)(e:Env)(d:List Deferred)(h:Heap):Prop:=
 au v (fun b=>if b=want then fK P op (e.set s (.bool b)) h (xV P R all rest k dst (e.set s (.bool b)) d)else ah P R all rest k (aU (e.set s (.bool b)) dst undef) d h) (ah P R all rest k (aU e dst undef) d h)
def YH (P:Program)(R:Heap->Heap->Prop)(s:Option Tmp)(want:Bool)(op:Op)(all:List Oper)(rest:PT)(k:aj)(dst:Option Tmp)(e:Env)(d:List Deferred)(h:Heap):Prop:=
 match s with|some s=>gtP P R (e.getD s undef) s want op all rest k dst e d h|none=>ah P R all rest k (aU e dst undef) d h
theorem Kk {j:Nat}{want:Bool}:Pj P R (some ⟨dst,op,ty,pos,after,some (j,want)⟩) all rest k e d h=YH P R (fQ all j) want op all rest k dst e d h:=by
 simp only[Pj,ax,YH];cases fQ all j<;>rfl
theorem Ps {s:Tmp}{want:Bool}:YH P R (some s) want op all rest k dst e d h=gtP P R (e.getD s undef) s want op all rest k dst e d h:=eqi rfl
theorem Z9 {s:Tmp}:gtP P R (.bool true) s true op all rest k dst e d h=fK P op (e.set s (.bool true)) h (xV P R all rest k dst (e.set s (.bool true)) d):=by simp[gtP,au]
theorem ZZ {s:Tmp}:gtP P R (.bool false) s false op all rest k dst e d h=fK P op (e.set s (.bool false)) h (xV P R all rest k dst (e.set s (.bool false)) d):=by simp[gtP,au]
theorem ZR {s:Tmp}:gtP P R (.bool true) s false op all rest k dst e d h=ah P R all rest k (aU (e.set s (.bool true)) dst undef) d h:=by simp[gtP,au]
theorem ZC {s:Tmp}:gtP P R (.bool false) s true op all rest k dst e d h=ah P R all rest k (aU (e.set s (.bool false)) dst undef) d h:=by simp[gtP,au]
theorem Q7 {s:Tmp}{w:Bool}{vs:Array Value}:gtP P R (.tuple vs) s w op all rest k dst e d h=ah P R all rest k (aU e dst undef) d h:=by simp[gtP,au]
def gtO (P:Program)(v:Value)(s:Tmp)(want:Bool)(op:Op)(ty:TypeId)(dst:Option Tmp)(e:Env)(h:Heap)(K:Env->Heap->Prop):Prop:=
 au v (fun b=>if b=want then opW P op ty (e.set s (.bool b)) h (fun v h'=>K (aU (e.set s (.bool b)) dst v) h')else K (aU (e.set s (.bool b)) dst undef) h) (K (aU e dst undef) h)
def YI (P:Program)(s:Option Tmp)(want:Bool)(op:Op)(ty:TypeId)(dst:Option Tmp)(e:Env)(h:Heap)(K:Env->Heap->Prop):Prop:=
 match s with|some s=>gtO P (e.getD s undef) s want op ty dst e h K|none=>K (aU e dst undef) h
theorem Qn {j:Nat}{want:Bool}{K:Env->Heap->Prop}:stO P all (some ⟨dst,op,ty,pos,after,some (j,want)⟩) e h K=YI P (fQ all j) want op ty dst e h K:=by
 simp only[stO,ax,YI];cases fQ all j<;>rfl
theorem Qg {s:Tmp}{want:Bool}{K:Env->Heap->Prop}:YI P (some s) want op ty dst e h K=gtO P (e.getD s undef) s want op ty dst e h K:=eqi rfl
theorem YR {s:Tmp}{K:Env->Heap->Prop}:gtO P (.bool true) s true op ty dst e h K=opW P op ty (e.set s (.bool true)) h (fun v h'=>K (aU (e.set s (.bool true)) dst v) h'):=by simp[gtO,au]
theorem ZU {s:Tmp}{K:Env->Heap->Prop}:gtO P (.bool false) s false op ty dst e h K=opW P op ty (e.set s (.bool false)) h (fun v h'=>K (aU (e.set s (.bool false)) dst v) h'):=by simp[gtO,au]
theorem Yo {s:Tmp}{K:Env->Heap->Prop}:gtO P (.bool true) s false op ty dst e h K=K (aU (e.set s (.bool true)) dst undef) h:=by simp[gtO,au]
theorem Z5 {s:Tmp}{K:Env->Heap->Prop}:gtO P (.bool false) s true op ty dst e h K=K (aU (e.set s (.bool false)) dst undef) h:=by simp[gtO,au]
theorem QC {s:Tmp}{w:Bool}{vs:Array Value}{K:Env->Heap->Prop}:gtO P (.tuple vs) s w op ty dst e h K=K (aU e dst undef) h:=by simp[gtO,au]
set_option linter.defProp false
def treeS:=aD (aD (aD @JQ @Kb) (aD (aD @QX @LH) (aD (aD @RN @Kk) (aD @Q8 @Qn))))
 (aD (aD (aD @Q4 @Ps) (aD @Qg @Wt)) (aD (aD (aD @Y8 @Xy) (aD @Y6 (aD @Ya @QD))) (aD (aD (aD @Z9 @ZZ) (aD @ZR (aD @ZC @Q7))) (aD (aD @YR @ZU) (aD @Yo (aD @Z5 @QC))))))
theorem zAN (H:∀h',R h h'->k .normal e d h'):ah P R all .fin k e d h:=H
theorem Zk (H:∀h',R h h'->stO P all all[i]? e h' (fun e h''=>ah P R all rest k e d h'')):ah P R all (.one i rest) k e d h:=H
theorem YD (H:∀h',R h h'->stO P all all[i]? e h' (fun e h''=>R h' h''/\ah P R all rest k e d h'')):ah P R all (.keep i rest) k e d h:=H
theorem Xh {u v:Bool}(H:∀h',R h h'->stO P all all[x]? e h' (fun e h''=>(u=true->R h' h'')/\ah P R all a k e d h'')/\stO P all all[y]? e h' (fun e h''=>(v=true->R h' h'')/\ah P R all b k e d h'')):ah P R all (.yo x y u v a b) k e d h:=H
end tree
section fresh
variable {P:Program}{h:Heap}{er:Env}{ty:TypeId}
end fresh
end Go.Eng
end
section
namespace Go.Proofs.YtejmkibjpaoahaaGreatDoor
open Go Go.Proofs Go.Eng Go.Run Tab RL
set_option maxRecDepth 100000
set_option linter.unusedSimpArgs false
set_option linter.unusedVariables false
set_option linter.defProp false
set_option maxHeartbeats 2000000
set_option linter.defProp false
def zPS:=(aD (aD @zPd @zP8) (aD @zP9 (aD @zP0 @sz2)))
def zPT:=(aD (aD @zPd @zP8) (aD @zP9 (aD @zP0 @sz2)))
def zPU:=(aD (aD @zPc (aD @zPy @zPW)) (aD @zRC (aD @zPq @zQJ)))
def zOY:=(aD (aD (aD @zPc (aD @zPd @zP8)) (aD @zP9 (aD @zQP @zPy))) (aD (aD @zPW (aD @zP0 @zRC)) (aD (aD @zPq @sz2) (aD @zQJ @Tryz.underlying2))))
def zOZ:=(aD (aD (aD @zPc (aD @zPd @zP8)) (aD (aD @zP9 @zQk) (aD @zQl @zQP))) (aD (aD (aD @zPy @zPW) (aD @zP0 @zRC)) (aD (aD @zPq @sz2) (aD @zQJ @Tryz.underlying2))))
def zO0:=(aD (aD (aD @zPd @zP8) (aD @zP9 @zQk)) (aD (aD @zQl @zP0) (aD @sz2 @Tryz.underlying2)))
def zO1:=(aD (aD (aD @zPc (aD @zPd @zP8)) (aD (aD @zP9 @zQk) (aD @zQl @zQP))) (aD (aD (aD @zPy @zPW) (aD @zP0 @zRC)) (aD (aD @zPq @sz2) (aD @zQJ @Tryz.underlying2))))
def rgV (a b:Int):Value:= .agg #[.int .i64 a,.int .i64 b]
def enA (e:En):Value:= .agg #[.int .i64 e.d,.int .i64 e.f,.int .i64 e.t,.int .i64 e.a]
def isW (a b m:Int):Prop:=0<=a/\a<=b/\b<=m
instance (a b m:Int):Decidable (isW a b m):=by unfold isW;infer_instance
theorem zQe (a b m:Int)(h:Eng.Heap):ak aF 58 #[rgV a b,.int .i64 m] h (fun v h'=>v= .bool (decide (isW a b m))/\Ext h h'):=by
 unfold rgV isW
 (refine Rm Tryz.func58 rfl zYi ?_;simp only[Tryz.ntmps58,Tryz.results58,coreS,U1,splice,aC,af,Nat.reduceAdd,Nat.reduceSub,Nat.reduceMul,Nat.reduceLeDiff,Int.reduceEq,Nat.reduceEqDiff,zPS])
 have x:Ext h (h.push (.cells #[.int .i64 a,.int .i64 b] 115)):=(Ext.refl h).push _;refine⟨fun h1=>⟨fun h2=> ?_,fun h2=> ?_⟩,fun h1=> ?_⟩
 .exact⟨by simp[h1,h2],x⟩
 .exact⟨by simp[h1,h2],x⟩
 .exact⟨by simp[h1],x⟩
theorem zXj (a b m:Int)(h:Eng.Heap):ak aF 61 #[rgV a b,.int .i64 m] h (fun v h'=>v= .bool (decide (a<=m/\m<=b))/\Ext h h'):=by
 unfold rgV
 (refine Rm Tryz.func61 rfl zYl ?_;simp only[Tryz.ntmps61,Tryz.results61,coreS,U1,splice,aC,af,Nat.reduceAdd,Nat.reduceSub,Nat.reduceMul,Nat.reduceLeDiff,Int.reduceEq,Nat.reduceEqDiff,zPT])
 have x:Ext h (h.push (.cells #[.int .i64 a,.int .i64 b] 115)):=(Ext.refl h).push _;refine⟨fun h1=> ?_,fun h1=> ?_⟩
 .exact⟨by simp[h1],x⟩
 .exact⟨by simp[h1],x⟩
theorem zV1 (h:Eng.Heap)(o1 o2 o3:Obj):∃H,((h.push o1).push o2).push o3=H/\H[h.size]? =some o1/\H[h.size+1]? =some o2/\H[h.size+1+1]? =some o3/\Ext h H:=by
 refine⟨_,rfl,Jy (Jy jD),?_,?_,(((Ext.refl h).push _).push _).push _⟩
 .have:=jD (h:=h.push o1) (o:=o2);rw[Rh]at this;exact Jy this
 .have:=jD (h:=(h.push o1).push o2) (o:=o3);rwa[Rh,Rh]at this
theorem zYR (h:Eng.Heap):ak aF 62 #[] h (fun v h'=>v=rgV 0 1000000/\Ext h h'):=by
 (refine Rm Tryz.func62 rfl zYm ?_;simp only[Tryz.ntmps62,Tryz.results62,coreS,U1,splice,aC,af,Nat.reduceAdd,Nat.reduceSub,Nat.reduceMul,Nat.reduceLeDiff,Int.reduceEq,Nat.reduceEqDiff,zPU])
 exact⟨rfl,(Ext.refl h).push _⟩
theorem zR6 (x y:Int):(if x<y then y else x)=max x y:=by split<;>omega
theorem zT6 (x y:Int):(if y<x then y else x)=min x y:=by split<;>omega
theorem zQ0 {a b:Int}(h:0<=a):a.tdiv b=a/b:=Int.tdiv_eq_ediv_of_nonneg h
theorem zRd {e:En}{a b:Int}(he:okM e)(ha:0<=a/\a<=1000000)(hb:0<=b/\b<=1000000):(0<=a*e.d/\a*e.d<=1000000000)/\(0<=b*e.f/\b*e.f<=1000000000):=by
 obtain⟨h1,h2,h3,h4,h5,h6⟩:=he;refine⟨⟨zaP ha.1 h1,?_⟩,zaP hb.1 (by omega),?_⟩
 .have:=zaO ha.2 (show e.d<=1000 by omega) h1 (by omega);omega
 .have:=zaO hb.2 h3 (by omega) (by omega);omega
theorem zTe (e:En)(a b:Int)(h:Eng.Heap)(he:okM e)(ha:0<=a/\a<=1000000)(hb:0<=b/\b<=1000000):ak aF 120 #[enA e,rgV a b] h (fun v h'=>v=rgV (mlo e a) (mhi e b)/\Ext h h'):=by
 obtain⟨⟨b1,b2⟩,b3,b4⟩:=zRd he ha hb;have hm:=id he;obtain⟨h1,h2,h3,h4,h5,h6⟩:=he;unfold rgV enA
 (refine Rm Tryz.func120 rfl zXP ?_;simp only[Tryz.ntmps120,Tryz.results120,coreS,U1,splice,aC,af,Nat.reduceAdd,Nat.reduceSub,Nat.reduceMul,Nat.reduceLeDiff,Int.reduceEq,Nat.reduceEqDiff,zO1])
 obtain⟨H,eH,g1,g2,g3,x⟩:=zV1 h (.cells #[.int .i64 e.d,.int .i64 e.f,.int .i64 e.t,.int .i64 e.a] 193) (.cells #[.int .i64 a,.int .i64 b] 115) (.cells #[.int .i64 0,.int .i64 0] 115);rw[eH];have ne1:¬(h.size=h.size+1+1):=by omega
 simp only[ne1,if_false,g1,g2,zQ0 b1,zQ0 b3,coreS,aC,af,Nat.reduceAdd,Nat.reduceSub,Nat.reduceMul,Nat.reduceLeDiff,Int.reduceEq,Nat.reduceEqDiff,zO1];refine⟨by rw[zBS];omega,by decide,by rw[zBS];omega,by rw[zBS];omega,by rw[zBS];omega,by decide,by rw[zBS];omega,by rw[zBS];omega,?_⟩;simp only[splice,dL,dG,bK,cz,bL,aZ,bv,Nat.reduceAdd,Nat.reduceLeDiff,if_true,coreS,aC,af,Nat.reduceAdd,Nat.reduceSub,Nat.reduceMul,Nat.reduceLeDiff,Int.reduceEq,Nat.reduceEqDiff,zO1];simp only[g3,coreS,aC,af,Nat.reduceAdd,Nat.reduceSub,Nat.reduceMul,Nat.reduceLeDiff,Int.reduceEq,Nat.reduceEqDiff,zO1];refine Oy g3 (by simp) fun h4 g4 u4=> ?_
 simp only[splice,dL,dG,bK,cz,bL,aZ,bv]at g4;simp only[g4,coreS,aC,af,Nat.reduceAdd,Nat.reduceSub,Nat.reduceMul,Nat.reduceLeDiff,Int.reduceEq,Nat.reduceEqDiff,zO1];exact⟨by unfold mlo mhi;rw[zR6,zR6],u4.ext x (by omega)⟩
theorem zU3 (e:En)(a b:Int)(h:Eng.Heap)(he:okM e)(ha:0<=a/\a<=1000000)(hb:0<=b/\b<=1000000):ak aF 117 #[enA e,rgV a b] h (fun v h'=>v=rgV (mlo e a) (mhi e b)/\Ext h h'):=by
 obtain⟨⟨b1,b2⟩,b3,b4⟩:=zRd he ha hb;have hm:=id he;obtain⟨h1,h2,h3,h4,h5,h6⟩:=he;unfold rgV enA
 (refine Rm Tryz.func117 rfl zXM ?_;simp only[Tryz.ntmps117,Tryz.results117,coreS,U1,splice,aC,af,Nat.reduceAdd,Nat.reduceSub,Nat.reduceMul,Nat.reduceLeDiff,Int.reduceEq,Nat.reduceEqDiff,zOZ])
 obtain⟨H,eH,g1,g2,g3,x⟩:=zV1 h (.cells #[.int .i64 e.d,.int .i64 e.f,.int .i64 e.t,.int .i64 e.a] 193) (.cells #[.int .i64 a,.int .i64 b] 115) (.cells #[.int .i64 0,.int .i64 0] 115);rw[eH];have ne1:¬(h.size=h.size+1+1):=by omega
 simp only[ne1,if_false,g1,g2,zQ0 b1,zQ0 b3,coreS,aC,af,Nat.reduceAdd,Nat.reduceSub,Nat.reduceMul,Nat.reduceLeDiff,Int.reduceEq,Nat.reduceEqDiff,zOZ];refine⟨by rw[zBS];omega,by decide,by rw[zBS];omega,by rw[zBS];omega,by rw[zBS];omega,by decide,by rw[zBS];omega,by rw[zBS];omega,?_⟩;simp only[splice,dL,dG,bK,cz,bL,aZ,bv,Nat.reduceAdd,Nat.reduceLeDiff,if_true,coreS,aC,af,Nat.reduceAdd,Nat.reduceSub,Nat.reduceMul,Nat.reduceLeDiff,Int.reduceEq,Nat.reduceEqDiff,zOZ];simp only[g3,coreS,aC,af,Nat.reduceAdd,Nat.reduceSub,Nat.reduceMul,Nat.reduceLeDiff,Int.reduceEq,Nat.reduceEqDiff,zOZ];refine Oy g3 (by simp) fun h4 g4 u4=> ?_
 simp only[splice,dL,dG,bK,cz,bL,aZ,bv]at g4;simp only[g4,coreS,aC,af,Nat.reduceAdd,Nat.reduceSub,Nat.reduceMul,Nat.reduceLeDiff,Int.reduceEq,Nat.reduceEqDiff,zOZ];exact⟨by unfold mlo mhi;rw[zR6,zR6],u4.ext x (by omega)⟩
theorem zUF (a b c d:Int)(h:Eng.Heap):ak aF 116 #[rgV a b,rgV c d] h (fun v h'=>v=rgV (max a c) (min b d)/\Ext h h'):=by
 unfold rgV
 (refine Rm Tryz.func116 rfl zXL ?_;simp only[Tryz.ntmps116,Tryz.results116,coreS,U1,splice,aC,af,Nat.reduceAdd,Nat.reduceSub,Nat.reduceMul,Nat.reduceLeDiff,Int.reduceEq,Nat.reduceEqDiff,zOY])
 obtain⟨H,eH,g1,g2,g3,x⟩:=zV1 h (.cells #[.int .i64 a,.int .i64 b] 115) (.cells #[.int .i64 c,.int .i64 d] 115) (.cells #[.int .i64 0,.int .i64 0] 115);rw[eH];have ne1:¬(h.size=h.size+1+1):=by omega
 simp only[ne1,if_false,g1,g2,coreS,aC,af,Nat.reduceAdd,Nat.reduceSub,Nat.reduceMul,Nat.reduceLeDiff,Int.reduceEq,Nat.reduceEqDiff,zOY];simp only[splice,dL,dG,bK,cz,bL,aZ,bv,Nat.reduceAdd,Nat.reduceLeDiff,if_true,coreS,aC,af,Nat.reduceAdd,Nat.reduceSub,Nat.reduceMul,Nat.reduceLeDiff,Int.reduceEq,Nat.reduceEqDiff,zOY];simp only[g3,coreS,aC,af,Nat.reduceAdd,Nat.reduceSub,Nat.reduceMul,Nat.reduceLeDiff,Int.reduceEq,Nat.reduceEqDiff,zOY];refine Oy g3 (by simp) fun h4 g4 u4=> ?_
 simp only[splice,dL,dG,bK,cz,bL,aZ,bv]at g4;simp only[g4,coreS,aC,af,Nat.reduceAdd,Nat.reduceSub,Nat.reduceMul,Nat.reduceLeDiff,Int.reduceEq,Nat.reduceEqDiff,zOY];exact⟨by rw[zR6,zT6],u4.ext x (by omega)⟩
theorem zRy (e:En)(l:Int)(s:Bool)(h:Eng.Heap)(he:okM e)(hl:0<=l/\l<=1000001):ak aF 119 #[enA e,.int .i64 l,.bool s] h (fun v h'=>v= .int .i64 (if s then ned e.d e.a l else ned e.f e.t l)/\Ext h h'):=by
 obtain⟨h1,h2,h3,h4,h5,h6⟩:=he;unfold enA
 (refine Rm Tryz.func119 rfl zXO ?_;simp only[Tryz.ntmps119,Tryz.results119,coreS,U1,splice,aC,af,Nat.reduceAdd,Nat.reduceSub,Nat.reduceMul,Nat.reduceLeDiff,Int.reduceEq,Nat.reduceEqDiff,zO0])
 have g1:=jD (h:=h) (o:= .cells #[.int .i64 e.d,.int .i64 e.f,.int .i64 e.t,.int .i64 e.a] 193);have x1:=(Ext.refl h).push (.cells #[.int .i64 e.d,.int .i64 e.f,.int .i64 e.t,.int .i64 e.a] 193);generalize h.push (.cells #[.int .i64 e.d,.int .i64 e.f,.int .i64 e.t,.int .i64 e.a] 193)=H at g1 x1 ⊢;refine zB9 (by kernel_rfl) zBp [(0,0),(1,0),(2,0),(3,0),(4,0),(5,0),(6,0),(7,0)] (by kernel_rfl) rfl (by kernel_rfl) ?_;simp only[g1,Ye,coreS,aC,af,Nat.reduceAdd,Nat.reduceSub,Nat.reduceMul,Nat.reduceLeDiff,Int.reduceEq,Nat.reduceEqDiff,drawS,zO0];cases s
 .simp only[coreS,aC,af,Nat.reduceAdd,Nat.reduceSub,Nat.reduceMul,Nat.reduceLeDiff,Int.reduceEq,Nat.reduceEqDiff,zO0];refine⟨fun c=>⟨by unfold ned;rw[if_pos c],x1⟩,fun c=>⟨fun c2=>⟨by unfold ned;rw[if_neg c,if_pos c2],x1⟩,fun c2=> ?_⟩⟩;have nn:0<=(l+e.t)*1000+e.f-1:=by omega
  have q1:=Oe nn (show 0<=e.f by omega);have q2:=zav e.f nn;rw[zQ0 nn];exact⟨by rw[zBS];omega,by rw[zBS];omega,by rw[zBS];omega,by rw[zBS];omega,c2,by rw[zBS];omega,by unfold ned;rw[if_neg c,if_neg c2,zT6],x1⟩
 .simp only[coreS,aC,af,Nat.reduceAdd,Nat.reduceSub,Nat.reduceMul,Nat.reduceLeDiff,Int.reduceEq,Nat.reduceEqDiff,zO0];refine zB9 (by kernel_rfl) zBp [(0,0),(1,0),(2,0),(3,0),(4,0),(5,0),(6,0),(7,0)] (by kernel_rfl) rfl (by kernel_rfl) ?_;simp only[g1,Ye,coreS,aC,af,Nat.reduceAdd,Nat.reduceSub,Nat.reduceMul,Nat.reduceLeDiff,Int.reduceEq,Nat.reduceEqDiff,drawS,zO0];refine⟨fun c=>⟨by unfold ned;rw[if_pos c],x1⟩,fun c=>⟨fun c2=>⟨by unfold ned;rw[if_neg c,if_pos c2],x1⟩,fun c2=> ?_⟩⟩;have nn:0<=(l+e.a)*1000+e.d-1:=by omega
  have q1:=Oe nn (show 0<=e.d by omega);have q2:=zav e.d nn;rw[zQ0 nn];exact⟨by rw[zBS];omega,by rw[zBS];omega,by rw[zBS];omega,by rw[zBS];omega,c2,by rw[zBS];omega,by unfold ned;rw[if_neg c,if_neg c2,zT6],x1⟩
end Go.Proofs.YtejmkibjpaoahaaGreatDoor
end
section
namespace Go.Proofs.YtejmkibjpaoahaaGreatDoor
open Go Go.Proofs Go.Eng Go.Run Tab RL
set_option maxRecDepth 100000
set_option linter.unusedSimpArgs false
set_option linter.unusedVariables false
set_option linter.defProp false
set_option maxHeartbeats 2000000
set_option linter.defProp false
def zOL:=(aD (aD @zPc (aD @zUr @zPW)) (aD @zPq (aD @Tryz.underlying57 @Tryz.underlying58)))
def zOM:=(aD (aD @zPd (aD @by2 @zP0)) (aD @sz2 (aD @Tryz.underlying48 @Tryz.underlying58)))
def zOP:=(aD (aD (aD @zPc @zSj) (aD @zQk @zQl)) (aD (aD @zPW @zR7) (aD @zPq (aD @zTO @Tryz.underlying57))))
def zOD:=(aD (aD (aD (aD @zPc @zSI) (aD @zPd @zUr)) (aD (aD @zSj @by2) (aD @zQP (aD @zPy @zPW)))) (aD (aD (aD @zR7 @zP0) (aD @zRC (aD @zPq @zTO))) (aD (aD @sz2 @zQJ) (aD @Tryz.underlying48 (aD @Tryz.underlying57 @Tryz.underlying58)))))
structure Rw (es:List En):Prop where
 len:1<=es.length/\es.length<=7
 all:∀e∈es,okM e
theorem zZK {h:Eng.Heap}{g off:Nat}{es:List En}(hr:Row h (some ⟨g,off,none⟩) (zOS es)){j:Nat}(hj:j<es.length):UY h[g]? (off+j*4) 2=some [.int .i64 es[j].d,.int .i64 es[j].f]/\UY h[g]? (off+j*4+2) 2=some [.int .i64 es[j].t,.int .i64 es[j].a]:=by
 have e4:=zQj es j hj;have h1:=hr.cells (j:=j*4) (n:=2) (by rw[zOI];omega) (by omega);have h2:=hr.cells (j:=j*4+2) (n:=2) (by rw[zOI];omega) (by omega);rw[gK]at h1 h2;have f1:((zOS es).drop (j*4)).take 2=[.int .i64 es[j].d,.int .i64 es[j].f]:=by
  have:(((zOS es).drop (j*4)).take 4).take 2=[.int .i64 es[j].d,.int .i64 es[j].f]:=by rw[e4];rfl
  rwa[List.take_take]at this
 have f2:((zOS es).drop (j*4+2)).take 2=[.int .i64 es[j].t,.int .i64 es[j].a]:=by
  have:(((zOS es).drop (j*4)).take 4).drop 2=[.int .i64 es[j].t,.int .i64 es[j].a]:=by rw[e4];rfl
  rwa[List.drop_take,wm]at this
 rw[f1]at h1;rw[f2]at h2;rw[EG]at h1 h2;exact⟨h1,by rw[Mc];exact h2⟩
theorem zRV {e:En}:okM e<->isW e.d e.f 1000/\isW e.t e.a 1000:=by
 unfold okM isW;omega
theorem zV4 (a:Option Addr)(n c:Nat)(es:List En)(h:Eng.Heap)(hr:Row h a (zOS es))(hn:n=es.length):
 ak aF 57 #[.slice a n c] h (fun v h'=>(∃r:Int,v= .int .i64 r/\(r=0<->Rw es))/\Ext h h'):=by
 (refine Rm Tryz.func57 rfl zYh ?_;simp only[Tryz.ntmps57,Tryz.results57,coreS,U1,splice,aC,af,Nat.reduceAdd,Nat.reduceSub,Nat.reduceMul,Nat.reduceLeDiff,Int.reduceEq,Nat.reduceEqDiff,zOP])
 have hrow:∀r:Int,r≠0->¬Rw es->(∃q:Int,lN .i64 r= .int .i64 q/\(q=0<->Rw es)):=fun r h1 h2=>⟨r,rfl,fun e=>absurd e h1,fun e=>absurd e h2⟩
 refine⟨fun hc=> ?_,fun hc=>⟨fun hc2=> ?_,fun hc2=> ?_⟩⟩
 .exact⟨hrow 6 (by decide) fun R=>by have:=R.len;omega,Ext.refl h⟩
 .exact⟨hrow 6 (by decide) fun R=>by have:=R.len;omega,Ext.refl h⟩
 obtain⟨g0,off,rfl⟩:=Row.addr hr (by rw[zOI];omega);refine zAi [2,3,12,13,14,15,16,17,18,19,20,21,22,23,24,25,26,27,28,29,30,31,32,33] (fun g h'=>Ext h h'/\∃i:Nat,i<=n/\g 3= .int .i64 i/\∀j (hj:j<es.length),j<i->okM es[j]) (fun g _=>match g 3 with| .int _ m=>n-m.toNat|_=>0) ⟨Ext.refl h,0,by omega,rfl,fun j hj h0=>by omega⟩ ?_;rintro g h1 ⟨x1,i,hi,hg,hno⟩;simp only[hg,coreS,aC,af,Nat.reduceAdd,Nat.reduceSub,Nat.reduceMul,Nat.reduceLeDiff,Int.reduceEq,Nat.reduceEqDiff,zOP];refine⟨fun hlt=> ?_,fun hge=> ?_⟩
 .have hil:i<es.length:=by omega
  obtain⟨hc1,hc2⟩:=zZK (hr.ext x1) hil;simp only[gK,hc1,hc2,coreS,aC,af,Nat.reduceAdd,Nat.reduceSub,Nat.reduceMul,Nat.reduceLeDiff,Int.reduceEq,Nat.reduceEqDiff,zOP];refine⟨by omega,rfl,?_⟩;refine ak.mono (zQe es[i].d es[i].f 1000 h1) ?_;rintro v h2 ⟨rfl,x2⟩;have hmem:es[i]∈es:=bS hil;by_cases w1:isW es[i].d es[i].f 1000
  case neg=>
   simp only[w1,decide_false,bP,coreS,aC,af,Nat.reduceAdd,Nat.reduceSub,Nat.reduceMul,Nat.reduceLeDiff,Int.reduceEq,Nat.reduceEqDiff,zOP];exact⟨hrow 3 (by decide) fun R=>w1 (zRV.1 (R.all _ hmem)).1,x1.trans x2⟩
  have hc3:=(zZK (hr.ext (x1.trans x2)) hil).2;simp only[w1,hc3,decide_true,bE,coreS,aC,af,Nat.reduceAdd,Nat.reduceSub,Nat.reduceMul,Nat.reduceLeDiff,Int.reduceEq,Nat.reduceEqDiff,zOP];refine⟨by omega,rfl,?_⟩;refine ak.mono (zQe es[i].t es[i].a 1000 h2) ?_;rintro v h3 ⟨rfl,x3⟩;by_cases w2:isW es[i].t es[i].a 1000
  case neg=>
   simp only[w2,decide_false,bP,coreS,aC,af,Nat.reduceAdd,Nat.reduceSub,Nat.reduceMul,Nat.reduceLeDiff,Int.reduceEq,Nat.reduceEqDiff,zOP];exact⟨hrow 3 (by decide) fun R=>w2 (zRV.1 (R.all _ hmem)).2,(x1.trans x2).trans x3⟩
  simp only[w2,hg,decide_true,bE,coreS,aC,af,Nat.reduceAdd,Nat.reduceSub,Nat.reduceMul,Nat.reduceLeDiff,Int.reduceEq,Nat.reduceEqDiff,zOP];refine⟨by rw[zBS];omega,Zr (by kernel_rfl) ⟨(x1.trans x2).trans x3,i+1,by omega,rfl,fun j hj hji=> ?_⟩ ?_⟩
  .by_cases e:j=i
   .subst e;exact zRV.2 ⟨w1,w2⟩
   .exact hno j hj (by omega)
  .show n-((i:Int)+1).toNat<n-(i:Int).toNat;omega
 .refine⟨⟨0,rfl,fun _=>⟨by omega,fun e he=> ?_⟩,fun _=>rfl⟩,x1⟩;obtain⟨j,hj,rfl⟩:=XE he;exact hno j hj (by omega)
theorem rgK {h:Eng.Heap}{g off:Nat}{o:List Int}(hr:Row h (some ⟨g,off,none⟩) (ints o)){j:Nat}(hj:2*j+1<o.length):UY h[g]? (off+j*2) 2=some [.int .i64 (lo o j),.int .i64 (hi o j)]:=by
 have h1:=hr.cells (j:=j*2) (n:=2) (by rw[aR];omega) (by omega);rw[gK,EG]at h1;rw[h1];congr 1;unfold ints lo hi;rw[<-List.map_drop,<-List.map_take];rw[lG (show j*2<o.length by omega),lG (show j*2+1<o.length by omega)];simp only[pq,zA,List.map_cons,List.map_nil];have e1:o[j*2]'(by omega)=o.getD (2*j) 0:=by
  simp only[Nat.mul_comm 2 j,iq,aY (show j*2<o.length by omega),rO]
 have e2:o[j*2+1]'(by omega)=o.getD (2*j+1) 0:=by
  simp only[Nat.mul_comm 2 j,iq,aY (show j*2+1<o.length by omega),rO]
 rw[e1,e2]
structure Sc (es:List En)(o:List Int)(m:Nat):Prop where
 rw:Rw es
 len:m=es.length+1
 all:∀i,i<m->isW (lo o i) (hi o i) 1000000
theorem zSC (a:Option Addr)(n c:Nat)(es:List En)(b:Option Addr)(m d:Nat)(o:List Int)(h:Eng.Heap)(hr:Row h a (zOS es))(hn:n=es.length)(hb:Row h b (ints o))(hm:o.length=2*m):
 ak aF 19 #[.slice a n c,.slice b m d] h (fun v h'=>(∃r:Int,v= .int .i64 r/\(r=0<->Sc es o m))/\Ext h h'):=by
 (refine Rm Tryz.func19 rfl zY0 ?_;simp only[Tryz.ntmps19,Tryz.results19,coreS,U1,splice,aC,af,Nat.reduceAdd,Nat.reduceSub,Nat.reduceMul,Nat.reduceLeDiff,Int.reduceEq,Nat.reduceEqDiff,zOL])
 have hrow:∀r:Int,r≠0->¬Sc es o m->(∃q:Int,lN .i64 r= .int .i64 q/\(q=0<->Sc es o m)):=fun r h1 h2=>⟨r,rfl,fun e=>absurd e h1,fun e=>absurd e h2⟩
 refine ak.mono (zV4 a n c es h hr hn) ?_;rintro v h1 ⟨⟨r,rfl,hr1⟩,x1⟩;by_cases R:Rw es
 case neg=>
  have hr0:¬r=0:=fun e=>R (hr1.1 e)
  simp only[hr0,decide_false,bP,coreS,aC,af,Nat.reduceAdd,Nat.reduceSub,Nat.reduceMul,Nat.reduceLeDiff,Int.reduceEq,Nat.reduceEqDiff,zOL];refine ak.mono (zV4 a n c es h1 (hr.ext x1) hn) ?_;rintro v h2 ⟨⟨r2,rfl,hr2⟩,x2⟩;have hr0:¬r2=0:=fun e=>R (hr2.1 e)
  simp only[coreS,aC,af,Nat.reduceAdd,Nat.reduceSub,Nat.reduceMul,Nat.reduceLeDiff,Int.reduceEq,Nat.reduceEqDiff,zOL];exact⟨hrow r2 hr0 fun S=>R S.rw,x1.trans x2⟩
 rw[hr1.2 R];have hRl:=R.len;simp only[decide_true,bE,coreS,aC,af,Nat.reduceAdd,Nat.reduceSub,Nat.reduceMul,Nat.reduceLeDiff,Int.reduceEq,Nat.reduceEqDiff,zOL];refine⟨by rw[zBS];omega,fun hc=> ?_,fun hc=> ?_⟩
 .obtain⟨g0,off,rfl⟩:=Row.addr hb (by rw[aR];omega);refine zAi [4,5,17,18,19,20,21,22,23,24,25,26,27,28] (fun g h'=>Ext h h'/\∃i:Nat,i<=m/\g 5= .int .i64 i/\∀j,j<i->isW (lo o j) (hi o j) 1000000) (fun g _=>match g 5 with| .int _ q=>m-q.toNat|_=>0) ⟨x1,0,by omega,rfl,fun j h0=>by omega⟩ ?_;rintro g h2 ⟨x2,i,hi,hg,hno⟩;simp only[hg,coreS,aC,af,Nat.reduceAdd,Nat.reduceSub,Nat.reduceMul,Nat.reduceLeDiff,Int.reduceEq,Nat.reduceEqDiff,zOL];refine⟨fun hlt=> ?_,fun hge=> ?_⟩
  .have hc1:=rgK (hb.ext x2) (j:=i) (by omega);simp only[gK,hc1,coreS,aC,af,Nat.reduceAdd,Nat.reduceSub,Nat.reduceMul,Nat.reduceLeDiff,Int.reduceEq,Nat.reduceEqDiff,zOL];refine⟨by omega,rfl,?_⟩;refine ak.mono (zQe (lo o i) (Go.Proofs.YtejmkibjpaoahaaGreatDoor.hi o i) 1000000 h2) ?_;rintro v h3 ⟨rfl,x3⟩;by_cases w1:isW (lo o i) (Go.Proofs.YtejmkibjpaoahaaGreatDoor.hi o i) 1000000
   case neg=>
    simp only[w1,decide_false,bP,coreS,aC,af,Nat.reduceAdd,Nat.reduceSub,Nat.reduceMul,Nat.reduceLeDiff,Int.reduceEq,Nat.reduceEqDiff,zOL];exact⟨hrow 3 (by decide) fun S=>w1 (S.all i (by omega)),x2.trans x3⟩
   simp only[w1,hg,decide_true,bE,coreS,aC,af,Nat.reduceAdd,Nat.reduceSub,Nat.reduceMul,Nat.reduceLeDiff,Int.reduceEq,Nat.reduceEqDiff,zOL];refine⟨by rw[zBS];omega,Zr (by kernel_rfl) ⟨x2.trans x3,i+1,by omega,rfl,fun j hji=> ?_⟩ ?_⟩
   .by_cases e:j=i
    .subst e;exact w1
    .exact hno j (by omega)
   .show m-((i:Int)+1).toNat<m-(i:Int).toNat;omega
  .exact⟨⟨0,rfl,fun _=>⟨R,by omega,fun j hj=>hno j (by omega)⟩,fun _=>rfl⟩,x2⟩
 .exact⟨hrow 15 (by decide) fun S=>hc (by have:=S.len;omega),x1⟩
theorem zWb (a:Option Addr)(n c:Nat)(es:List En)(b:Option Addr)(m d:Nat)(o:List Int)(w:Option Addr)(q p:Nat)(ws:List Int)(h:Eng.Heap)(hr:Row h a (zOS es))(hn:n=es.length)(hb:Row h b (ints o))(hm:o.length=2*m)(hw:eu h w q ws)(hq:q=m)(S:Sc es o m)(T:Tr es o fun i=>ws.getD i 0):
 ak aF 63 #[.slice a n c,.slice b m d,.slice w q p] h (fun v h'=>v= .bool true/\Ext h h'):=by
 (refine Rm Tryz.func63 rfl zYn ?_;simp only[Tryz.ntmps63,Tryz.results63,coreS,U1,splice,aC,af,Nat.reduceAdd,Nat.reduceSub,Nat.reduceMul,Nat.reduceLeDiff,Int.reduceEq,Nat.reduceEqDiff,zOD])
 have hl:=hw.len;have hml:=S.len;have hRl:=S.rw.len;obtain⟨g1,off1,rfl⟩:=Row.addr hr (by rw[zOI];omega);obtain⟨g0,off,rfl⟩:=Row.addr hb (by rw[aR];omega);refine zAi [6,7,8,9,10,11,12,13,14,15,16,17,18,19,20,21,22,23,24,25,26,27,28,29,30,31,32,33,34,35,36,37,38,39,40,41,42,43,44,45,46,47,48,49,50] (fun g h'=>Ext h h'/\∃i:Nat,i<=m/\g 7= .int .i64 i) (fun g _=>match g 7 with| .int _ q=>m-q.toNat|_=>0) ⟨Ext.refl h,0,by omega,rfl⟩ ?_;rintro g h2 ⟨x2,i,hi,hg⟩;simp only[hg,coreS,aC,af,Nat.reduceAdd,Nat.reduceSub,Nat.reduceMul,Nat.reduceLeDiff,Int.reduceEq,Nat.reduceEqDiff,zOD];refine⟨fun hlt=> ?_,fun hge=> ?_⟩
 .have hc1:=rgK (hb.ext x2) (j:=i) (by omega);have hw1:=(hw.ext x2).cell (j:=i) (by omega);have sw:=(hw.ext x2).isSome (by omega);refine zB9 (by kernel_rfl) zBc [(0,0),(1,0),(2,0),(3,0),(4,0),(5,0),(6,0),(7,0),(8,0),(9,0)] (by kernel_rfl) rfl (by kernel_rfl) ?_;simp only[gK,hg,hc1,hw1,coreS,aC,af,Nat.reduceAdd,Nat.reduceSub,Nat.reduceMul,Nat.reduceLeDiff,Int.reduceEq,Nat.reduceEqDiff,drawS,zOD];refine⟨by omega,rfl,by omega,sw,?_⟩;have t1:lo o i<=ws.getD i 0/\ws.getD i 0<=Go.Proofs.YtejmkibjpaoahaaGreatDoor.hi o i:=T.1 i (by omega);refine zCC _ (fun h3 x3=>ak.mono (zXj (lo o i) (Go.Proofs.YtejmkibjpaoahaaGreatDoor.hi o i) (ws.getD i 0) h3) fun v h4 q=>⟨q.1,q.2⟩) ?_;simp only[t1,and_self,decide_true,bE,coreS,aC,af,Nat.reduceAdd,Nat.reduceSub,Nat.reduceMul,Nat.reduceLeDiff,Int.reduceEq,Nat.reduceEqDiff,drawS,zOD];refine zBw fun h3 x3=> ?_
  simp only[coreS,aC,af,Nat.reduceAdd,Nat.reduceSub,Nat.reduceMul,Nat.reduceLeDiff,Int.reduceEq,Nat.reduceEqDiff,drawS,zOD];have x23:=x2.trans x3;by_cases hi0:i=0
  .subst hi0;refine zB9 (by kernel_rfl) zBc [(0,0),(1,0),(2,0),(3,0),(4,0),(5,0),(6,0),(7,0),(8,0),(9,0),(10,0),(11,0),(12,0),(13,0),(14,0),(15,0),(16,0),(17,0),(18,0),(19,0),(20,0),(21,0),(22,0),(23,0),(24,0),(25,0),(26,0)] (by kernel_rfl) rfl (by kernel_rfl) ?_;simp only[hg,show¬(0:Int)<((0:Nat):Int) by omega,decide_false,coreS,aC,af,Nat.reduceAdd,Nat.reduceSub,Nat.reduceMul,Nat.reduceLeDiff,Int.reduceEq,Nat.reduceEqDiff,drawS,zOD];refine zBw fun h4 x4=> ?_
   simp only[hg,coreS,aC,af,Nat.reduceAdd,Nat.reduceSub,Nat.reduceMul,Nat.reduceLeDiff,Int.reduceEq,Nat.reduceEqDiff,drawS,zOD];refine⟨by rw[zBS];omega,Zr (by kernel_rfl) ⟨x23.trans x4,1,by omega,rfl⟩ ?_⟩;show m-(((0:Nat):Int)+1).toNat<m-((0:Nat):Int).toNat;omega
  .obtain⟨j,rfl⟩:∃j,i=j+1:=⟨i-1,by omega⟩;have e1:((j+1:Nat):Int)-1=(j:Int):=by omega
   have hp:(0:Int)<((j+1:Nat):Int):=by omega
   have hce:=zRj (hr.ext x23) (i:=j) (by omega);rw[gK,EG]at hce;have hwj:=(hw.ext x23).cell (j:=j) (by omega);have hwi:=(hw.ext x23).cell (j:=j+1) (by omega);refine zB9 (by kernel_rfl) zBc [(0,0),(1,0),(2,0),(3,0),(4,0),(5,0),(6,0),(7,0),(8,0),(9,0),(10,0),(11,0),(12,0),(13,0),(14,0),(15,0),(16,0),(17,0),(18,0),(19,0),(20,0),(21,0),(22,0),(23,0),(24,0),(25,0),(26,0)] (by kernel_rfl) rfl (by kernel_rfl) ?_;simp only[gK,hg,hp,e1,hce,hwj,hwi,bi,coreS,aC,af,Nat.reduceAdd,Nat.reduceSub,Nat.reduceMul,Nat.reduceLeDiff,Int.reduceEq,Nat.reduceEqDiff,drawS,zOD];refine⟨by rw[zBS];omega,by omega,rfl,by rw[zBS];omega,by omega,sw,by rw[zBS];omega,by omega,sw,?_⟩;simp only[splice,dL,dG,bK,cz,bL,aZ,bv,Nat.reduceAdd,Nat.reduceLeDiff,if_true,coreS,aC,af,Nat.reduceAdd,Nat.reduceSub,Nat.reduceMul,Nat.reduceLeDiff,Int.reduceEq,Nat.reduceEqDiff,drawS,zOD];have hok:okM es[j]:=S.rw.all _ (bS _);have tj:lo o j<=ws.getD j 0/\ws.getD j 0<=Go.Proofs.YtejmkibjpaoahaaGreatDoor.hi o j:=T.1 j (by omega);have sj:=S.all j (by omega);have wj:0<=ws.getD j 0/\ws.getD j 0<=1000000:=by unfold isW at sj;omega
   refine zCC _ (fun h4 x4=>ak.mono (zTe es[j] (ws.getD j 0) (ws.getD j 0) h4 hok wj wj) fun v h5 q=>⟨q.1,q.2⟩) ?_;have t2:mlo es[j] (ws.getD j 0)<=ws.getD (j+1) 0/\ws.getD (j+1) 0<=mhi es[j] (ws.getD j 0):=T.2 j (by omega);simp only[hwi,coreS,aC,af,Nat.reduceAdd,Nat.reduceSub,Nat.reduceMul,Nat.reduceLeDiff,Int.reduceEq,Nat.reduceEqDiff,drawS,zOD];refine⟨by omega,sw,?_⟩;refine zCC _ (fun h4 x4=>ak.mono (zXj (mlo es[j] (ws.getD j 0)) (mhi es[j] (ws.getD j 0)) (ws.getD (j+1) 0) h4) fun v h5 q=>⟨q.1,q.2⟩) ?_;simp only[t2,and_self,decide_true,bE,coreS,aC,af,Nat.reduceAdd,Nat.reduceSub,Nat.reduceMul,Nat.reduceLeDiff,Int.reduceEq,Nat.reduceEqDiff,drawS,zOD];refine zBw fun h4 x4=> ?_
   simp only[hg,coreS,aC,af,Nat.reduceAdd,Nat.reduceSub,Nat.reduceMul,Nat.reduceLeDiff,Int.reduceEq,Nat.reduceEqDiff,drawS,zOD];refine⟨by rw[zBS];omega,Zr (by kernel_rfl) ⟨x23.trans x4,j+1+1,by omega,rfl⟩ ?_⟩;show m-(((j+1:Nat):Int)+1).toNat<m-((j+1:Nat):Int).toNat;omega
 .exact x2
theorem zV5 (a:Option Addr)(n c:Nat)(es:List En)(b:Option Addr)(m d:Nat)(o:List Int)(w:Option Addr)(q p:Nat)(ws:List Int)(h:Eng.Heap)(hr:Row h a (zOS es))(hn:n=es.length)(hb:Row h b (ints o))(hm:o.length=2*m)(hw:eu h w q ws)(hq:q=m)(S:Sc es o m)(T:Tr es o fun i=>ws.getD i 0):
 ak aF 21 #[.slice a n c,.slice b m d,.slice w q p] h (fun v h'=>v= .int .i64 0/\Ext h h'):=by
 (refine Rm Tryz.func21 rfl zY2 ?_;simp only[Tryz.ntmps21,Tryz.results21,coreS,U1,splice,aC,af,Nat.reduceAdd,Nat.reduceSub,Nat.reduceMul,Nat.reduceLeDiff,Int.reduceEq,Nat.reduceEqDiff,zOM])
 have hl:=hw.len;have hml:=S.len;have hRl:=S.rw.len;refine ak.mono (zSC a n c es b m d o h hr hn hb hm) ?_;rintro v h1 ⟨⟨r,rfl,hr1⟩,x1⟩;rw[hr1.2 S];have hqm:(q:Int)=(m:Int):=by omega
 simp only[hqm,decide_true,bE,coreS,aC,af,Nat.reduceAdd,Nat.reduceSub,Nat.reduceMul,Nat.reduceLeDiff,Int.reduceEq,Nat.reduceEqDiff,zOM];refine zAi [6,7,20,21,22,23,24,25,26,27,28,29,30,31,32] (fun g h'=>Ext h h'/\∃i:Nat,i<=m/\g 7= .int .i64 i) (fun g _=>match g 7 with| .int _ q=>m-q.toNat|_=>0) ⟨x1,0,by omega,rfl⟩ ?_;rintro g h2 ⟨x2,i,hi,hg⟩;simp only[hg,coreS,aC,af,Nat.reduceAdd,Nat.reduceSub,Nat.reduceMul,Nat.reduceLeDiff,Int.reduceEq,Nat.reduceEqDiff,zOM];refine⟨fun hlt=> ?_,fun hge=> ?_⟩
 .have hw1:=(hw.ext x2).cell (j:=i) (by omega);have sw:=(hw.ext x2).isSome (by omega);have tj:lo o i<=ws.getD i 0/\ws.getD i 0<=Go.Proofs.YtejmkibjpaoahaaGreatDoor.hi o i:=T.1 i (by omega);have sj:=S.all i (by omega);have wj:0<=ws.getD i 0/\ws.getD i 0<=1000000:=by unfold isW at sj;omega
  refine zB9 (by kernel_rfl) zBc [(0,0),(1,0),(2,0),(3,0),(4,0),(5,0),(6,0)] (by kernel_rfl) rfl (by kernel_rfl) ?_;simp only[hg,coreS,aC,af,Nat.reduceAdd,Nat.reduceSub,Nat.reduceMul,Nat.reduceLeDiff,Int.reduceEq,Nat.reduceEqDiff,drawS,zOM];refine zCC _ (fun h4 x4=>ak.mono (zYR h4) fun v h5 q=>⟨q.1,q.2⟩) ?_;simp only[hg,hw1,coreS,aC,af,Nat.reduceAdd,Nat.reduceSub,Nat.reduceMul,Nat.reduceLeDiff,Int.reduceEq,Nat.reduceEqDiff,drawS,zOM];refine⟨by omega,sw,?_⟩;refine zCC _ (fun h4 x4=>ak.mono (zXj 0 1000000 (ws.getD i 0) h4) fun v h5 q=>⟨q.1,q.2⟩) ?_;simp only[wj,and_self,decide_true,bE,coreS,aC,af,Nat.reduceAdd,Nat.reduceSub,Nat.reduceMul,Nat.reduceLeDiff,Int.reduceEq,Nat.reduceEqDiff,drawS,zOM];refine zBw fun h4 x4=> ?_
  simp only[hg,coreS,aC,af,Nat.reduceAdd,Nat.reduceSub,Nat.reduceMul,Nat.reduceLeDiff,Int.reduceEq,Nat.reduceEqDiff,drawS,zOM];refine⟨by rw[zBS];omega,Zr (by kernel_rfl) ⟨x2.trans x4,i+1,by omega,rfl⟩ ?_⟩;show m-((i:Int)+1).toNat<m-(i:Int).toNat;omega
 .refine ak.mono (zWb a n c es b m d o w q p ws h2 (hr.ext x2) hn (hb.ext x2) hm (hw.ext x2) hq S T) ?_;rintro v h3 ⟨rfl,x3⟩;simp only[bE,coreS,aC,af,Nat.reduceAdd,Nat.reduceSub,Nat.reduceMul,Nat.reduceLeDiff,Int.reduceEq,Nat.reduceEqDiff,zOM];exact x2.trans x3
end Go.Proofs.YtejmkibjpaoahaaGreatDoor
end
