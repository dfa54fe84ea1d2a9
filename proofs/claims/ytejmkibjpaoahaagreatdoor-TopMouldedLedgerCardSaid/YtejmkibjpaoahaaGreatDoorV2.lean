/- Lemmas. No condition. -/
import Derived.Test.YtejmkibjpaoahaaGreatDoorV1
import Derived.KernelRfl
import Derived.Test.YtejmkibjpaoahaaGreatDoorProg
import Derived.Lib.AppendZerosOnto
import Derived.Lib.Overlaps
import Derived.Laws.Externs
import Derived.RangeFuncIn
import Derived.LoopNIn
import Derived.ProofKit
open Go.Value renaming oneCell'→af,cells→aC,int→mK
open Go.Proofs.Tryz renaming prog→aD,underlying33→aW,underlying48→iq
open And renaming intro→aF
open List renaming take_of_length_le→aN,getElem?_eq_getElem→aS,take_append_of_le_length→bi,append_assoc→bn,take_append_drop→bv,findIdx?_eq_some_iff_getElem→bD,getElem_mem→bE,length_append→bI,length_take→bL,findIdx?_eq_none_iff→bM,all_eq_true→bP,length_drop→bQ,contains_eq_mem→bR,mem_of_mem_take→bS,pairwise_cons→dn,any_eq_false→dC,take_add_one→dG,drop_left→dM,any_eq_true→dS,append_toArray→eB,getD→eD,toList_toArray→eF,filter_append→eQ,mem_singleton→fe,drop_drop→gY,replicate→ib,cons_append→kD,mem_append→kE,nil_append→kL,range→kM,mem_of_getElem?→kS,mem_cons→lc,size_toArray→lw,ext_getElem→lN,length_cons→lT,mem_flatMap→lX,range_succ→mD,mem_range→ny,take_left→nX,take_zero→nY,map_cons→pE
open Bool renaming and_eq_true→aX,not_false→aZ,not_true→bz,or_eq_true→ek,not_eq_true'→ic,false_eq_true→kY
open Int renaming toNat_natCast→aY
open Classical renaming not_not→bJ,propDecidable→iL
open Array renaming length_toList→bK,empty_append→cZ,getElem?_push→ed,getElem?_eq_some_iff→eO,append_empty→eP,any_eq_true'→kX,toList_inj→lC
open Go.Result renaming andThen→cz,andThen_ok→dL
open Option renaming isSome_iff_exists→cK,map_some→mJ,isNone→pV
open Nat renaming add_zero→fo,add_mul→ko,le_refl→kz,mul_le_mul_right→kV,min_eq_left→mI
open Go.Sem renaming run_bind→fw,run_pure→gL
open Go.Instr renaming beginRound→lG,enterLoop→lY,endRound→mM,endLoop→pq,getLoop→pz
set_option linter.unusedSimpArgs false
set_option linter.unusedVariables false
set_option linter.defProp false
set_option maxRecDepth 100000
namespace Go.Proofs.YtejmkibjpaoahaaGreatDoor.Tab
open Go Go.Proofs Go.Eng
theorem sz2:szT aD 2=1:=by kernel_rfl
theorem by2:iA aD 2=8:=by kernel_rfl
theorem zFP:(Tryz.prog.info? 2).isSome=true:=by kernel_rfl
theorem zFq:zF aD 2=some false:=by kernel_rfl
theorem zFm:dJ aD 2=some (.int .i64 0):=by kernel_rfl
theorem sz3:szT aD 3=1:=by kernel_rfl
theorem by3:iA aD 3=8:=by kernel_rfl
theorem zDX:(Tryz.prog.info? 3).isSome=true:=by kernel_rfl
theorem zD2:zF aD 3=some false:=by kernel_rfl
theorem zDf:dJ aD 3=some (.int .i64 0):=by kernel_rfl
theorem sz5:szT aD 5=1:=by kernel_rfl
theorem by5:iA aD 5=1:=by kernel_rfl
theorem zRD:(Tryz.prog.info? 5).isSome=true:=by kernel_rfl
theorem zQv:zF aD 5=some false:=by kernel_rfl
theorem zJP:szT aD 22=1:=by kernel_rfl
theorem zGM:(Tryz.prog.info? 22).isSome=true:=by kernel_rfl
theorem zGI:zF aD 22=some false:=by kernel_rfl
theorem zMj:szT aD 24=3:=by kernel_rfl
theorem zIt:(Tryz.prog.info? 24).isSome=true:=by kernel_rfl
theorem zI3:zF aD 24=some true:=by kernel_rfl
theorem zGx:jG aD 24 0=some 0:=by kernel_rfl
theorem zGy:jG aD 24 1=some 1:=by kernel_rfl
theorem zEs:jG aD 24 2=some 2:=by kernel_rfl
theorem zGF:szT aD 29=1:=by kernel_rfl
theorem zI9:iA aD 29=24:=by kernel_rfl
theorem zE3:(Tryz.prog.info? 29).isSome=true:=by kernel_rfl
theorem zEm:zF aD 29=some false:=by kernel_rfl
theorem zJq:dJ aD 29=some (.slice none 0 0):=by kernel_rfl
theorem zLN:szT aD 33=1:=by kernel_rfl
theorem zHd:(Tryz.prog.info? 33).isSome=true:=by kernel_rfl
theorem zH0:zF aD 33=some false:=by kernel_rfl
theorem zHV:szT aD 35=3:=by kernel_rfl
theorem zEw:(Tryz.prog.info? 35).isSome=true:=by kernel_rfl
theorem zEn:zF aD 35=some true:=by kernel_rfl
theorem zMt:dJ aD 35=some (.agg #[.int .i64 0,.int .i64 0,.slice none 0 0]):=by kernel_rfl
theorem zOI:jh aD 35=true:=by kernel_rfl
theorem zEO:jG aD 35 0=some 0:=by kernel_rfl
theorem zNM:mF aD 35 0=some (0,1):=by kernel_rfl
theorem zJ7:jG aD 35 1=some 1:=by kernel_rfl
theorem zFv:jG aD 35 2=some 2:=by kernel_rfl
theorem zEl:szT aD 39=4:=by kernel_rfl
theorem zGn:iA aD 39=32:=by kernel_rfl
theorem zDx:(Tryz.prog.info? 39).isSome=true:=by kernel_rfl
theorem zFS:zF aD 39=some true:=by kernel_rfl
theorem zEj:dJ aD 39=some (.agg #[.int .i64 0,.int .i64 0,.int .i64 0,.int .i64 0]):=by kernel_rfl
theorem zQ3:jh aD 39=true:=by kernel_rfl
theorem zE9:jG aD 39 0=some 0:=by kernel_rfl
theorem zNN:mF aD 39 0=some (0,1):=by kernel_rfl
theorem zEt:jG aD 39 1=some 1:=by kernel_rfl
theorem zNO:mF aD 39 1=some (1,1):=by kernel_rfl
theorem zEu:jG aD 39 2=some 2:=by kernel_rfl
theorem zNP:mF aD 39 2=some (2,1):=by kernel_rfl
theorem zIL:jG aD 39 3=some 3:=by kernel_rfl
theorem zNQ:mF aD 39 3=some (3,1):=by kernel_rfl
theorem zLO:szT aD 42=2:=by kernel_rfl
theorem zK3:iA aD 42=16:=by kernel_rfl
theorem zHe:(Tryz.prog.info? 42).isSome=true:=by kernel_rfl
theorem zL1:zF aD 42=some true:=by kernel_rfl
theorem zMu:dJ aD 42=some (.agg #[.int .i64 0,.int .i64 0]):=by kernel_rfl
theorem zFw:jG aD 42 0=some 0:=by kernel_rfl
theorem zFx:jG aD 42 1=some 1:=by kernel_rfl
theorem zRJ:szT aD 92=1:=by kernel_rfl
theorem zQY:(Tryz.prog.info? 92).isSome=true:=by kernel_rfl
theorem zPb:zF aD 92=some false:=by kernel_rfl
theorem zQc:szT aD 99=6:=by kernel_rfl
theorem zOH:(Tryz.prog.info? 99).isSome=true:=by kernel_rfl
theorem zNw:zF aD 99=some true:=by kernel_rfl
theorem zMv:dJ aD 99=some (.agg #[.int .i64 0,.int .i64 0,.int .i64 0,.int .i64 0,.int .i64 0,.int .i64 0]):=by kernel_rfl
theorem zHs:szT aD 103=8:=by kernel_rfl
theorem zGA:(Tryz.prog.info? 103).isSome=true:=by kernel_rfl
theorem zFp:zF aD 103=some true:=by kernel_rfl
theorem zFM:dJ aD 103=some (.agg #[.int .i64 0,.int .i64 0,.int .i64 0,.int .i64 0,.int .i64 0,.int .i64 0,.int .i64 0,.int .i64 0]):=by kernel_rfl
theorem zJN:szT aD 107=3:=by kernel_rfl
theorem zI7:iA aD 107=24:=by kernel_rfl
theorem zHD:(Tryz.prog.info? 107).isSome=true:=by kernel_rfl
theorem zIC:zF aD 107=some true:=by kernel_rfl
theorem zGd:dJ aD 107=some (.agg #[.int .i64 0,.int .i64 0,.int .i64 0]):=by kernel_rfl
theorem zPK:jh aD 107=true:=by kernel_rfl
theorem zG4:jG aD 107 0=some 0:=by kernel_rfl
theorem zLs:mF aD 107 0=some (0,1):=by kernel_rfl
theorem zG5:jG aD 107 1=some 1:=by kernel_rfl
theorem zLt:mF aD 107 1=some (1,1):=by kernel_rfl
theorem zII:jG aD 107 2=some 2:=by kernel_rfl
theorem zLu:mF aD 107 2=some (2,1):=by kernel_rfl
theorem zQa:szT aD 164=1:=by kernel_rfl
theorem zOz:(Tryz.prog.info? 164).isSome=true:=by kernel_rfl
theorem zON:zF aD 164=some false:=by kernel_rfl
theorem zNt:dJ aD 166=some (.agg #[.int .i64 0,.int .i64 0,.slice none 0 0,.map none]):=by kernel_rfl
theorem zPL:jh aD 166=true:=by kernel_rfl
theorem zKC:jG aD 166 0=some 0:=by kernel_rfl
theorem zLv:mF aD 166 0=some (0,3):=by kernel_rfl
theorem zNL:jG aD 166 1=some 3:=by kernel_rfl
theorem zLw:mF aD 166 1=some (3,1):=by kernel_rfl
theorem zHt:szT aD 170=3:=by kernel_rfl
theorem zGB:(Tryz.prog.info? 170).isSome=true:=by kernel_rfl
theorem zGh:zF aD 170=some true:=by kernel_rfl
theorem zKX:dJ aD 170=some (.agg #[.int .i64 0,.int .i64 0,.int .i64 0]):=by kernel_rfl
theorem zPM:jh aD 170=true:=by kernel_rfl
theorem zLx:mF aD 170 0=some (0,1):=by kernel_rfl
theorem zLy:mF aD 170 1=some (1,1):=by kernel_rfl
theorem zLz:mF aD 170 2=some (2,1):=by kernel_rfl
theorem zQb:szT aD 171=6:=by kernel_rfl
theorem zPA:(Tryz.prog.info? 171).isSome=true:=by kernel_rfl
theorem zOO:zF aD 171=some true:=by kernel_rfl
theorem zKY:dJ aD 171=some (.agg #[.int .i64 0,.int .i64 0,.int .i64 0,.int .i64 0,.int .i64 0,.int .i64 0]):=by kernel_rfl
theorem zNu:dJ aD 181=some (.agg #[.int .i64 0,.int .i64 0,.slice none 0 0]):=by kernel_rfl
theorem zPO:jh aD 181=true:=by kernel_rfl
theorem zIJ:jG aD 181 0=some 0:=by kernel_rfl
theorem zMA:mF aD 181 0=some (0,3):=by kernel_rfl
theorem zJO:szT aD 184=1:=by kernel_rfl
theorem zI8:iA aD 184=8:=by kernel_rfl
theorem zHE:(Tryz.prog.info? 184).isSome=true:=by kernel_rfl
theorem zLZ:zF aD 184=some true:=by kernel_rfl
theorem zGe:dJ aD 184=some (.agg #[.int .i64 0]):=by kernel_rfl
theorem zM5:jh aD 184=true:=by kernel_rfl
theorem zIK:jG aD 184 0=some 0:=by kernel_rfl
theorem zIk:mF aD 184 0=some (0,1):=by kernel_rfl
theorem zKU:szT aD 185=1:=by kernel_rfl
theorem zJw:iA aD 185=24:=by kernel_rfl
theorem zIP:(Tryz.prog.info? 185).isSome=true:=by kernel_rfl
theorem zL0:zF aD 185=some false:=by kernel_rfl
theorem zGf:dJ aD 185=some (.slice none 0 0):=by kernel_rfl
theorem zQx:qA aD 3=true:=by kernel_rfl
theorem zQy:qA aD 6=true:=by kernel_rfl
theorem zQz:qA aD 8=true:=by kernel_rfl
theorem zRA:qA aD 9=true:=by kernel_rfl
theorem zPd:qA aD 10=true:=by kernel_rfl
theorem zPe:qA aD 11=true:=by kernel_rfl
theorem zPf:qA aD 12=true:=by kernel_rfl
theorem zPg:qA aD 13=true:=by kernel_rfl
theorem zPh:qA aD 14=true:=by kernel_rfl
theorem zPi:qA aD 15=true:=by kernel_rfl
theorem zPj:qA aD 16=true:=by kernel_rfl
theorem zPk:qA aD 17=true:=by kernel_rfl
theorem zPl:qA aD 18=true:=by kernel_rfl
theorem zPo:qA aD 32=true:=by kernel_rfl
theorem zPp:qA aD 33=true:=by kernel_rfl
theorem zPq:qA aD 34=true:=by kernel_rfl
theorem zPr:qA aD 35=true:=by kernel_rfl
theorem zNz:qA aD 36=true:=by kernel_rfl
theorem zOA:qA aD 37=true:=by kernel_rfl
theorem zPs:qA aD 39=true:=by kernel_rfl
theorem zPt:qA aD 40=true:=by kernel_rfl
theorem zPu:qA aD 41=true:=by kernel_rfl
theorem zPv:qA aD 42=true:=by kernel_rfl
theorem zPw:qA aD 43=true:=by kernel_rfl
theorem zPx:qA aD 44=true:=by kernel_rfl
theorem zPy:qA aD 45=true:=by kernel_rfl
theorem zPz:qA aD 46=true:=by kernel_rfl
theorem zQA:qA aD 47=true:=by kernel_rfl
theorem zQB:qA aD 48=true:=by kernel_rfl
theorem zQC:qA aD 49=true:=by kernel_rfl
theorem zQD:qA aD 50=true:=by kernel_rfl
theorem zQE:qA aD 51=true:=by kernel_rfl
theorem zQF:qA aD 52=true:=by kernel_rfl
theorem zQG:qA aD 53=true:=by kernel_rfl
theorem zQH:qA aD 54=true:=by kernel_rfl
theorem zQI:qA aD 55=true:=by kernel_rfl
theorem zQJ:qA aD 56=true:=by kernel_rfl
theorem zQM:qA aD 93=true:=by kernel_rfl
theorem zOB:qA aD 94=true:=by kernel_rfl
theorem zQN:qA aD 95=true:=by kernel_rfl
theorem zQO:qA aD 96=true:=by kernel_rfl
theorem zOC:qA aD 97=true:=by kernel_rfl
theorem zOD:qA aD 99=true:=by kernel_rfl
theorem zOR:qA aD 100=true:=by kernel_rfl
theorem zOS:qA aD 101=true:=by kernel_rfl
theorem zOT:qA aD 102=true:=by kernel_rfl
theorem zOU:qA aD 103=true:=by kernel_rfl
theorem zOV:qA aD 104=true:=by kernel_rfl
theorem zOW:qA aD 107=true:=by kernel_rfl
theorem zOX:qA aD 108=true:=by kernel_rfl
theorem zOY:qA aD 109=true:=by kernel_rfl
theorem zOZ:qA aD 110=true:=by kernel_rfl
theorem zLb:qA aD 111=true:=by kernel_rfl
theorem zO0:qA aD 112=true:=by kernel_rfl
theorem zO1:qA aD 113=true:=by kernel_rfl
theorem zO7:qA aD 159=true:=by kernel_rfl
theorem zO8:qA aD 160=true:=by kernel_rfl
theorem zLc:qA aD 161=true:=by kernel_rfl
theorem zLd:qA aD 162=true:=by kernel_rfl
theorem zO9:qA aD 164=true:=by kernel_rfl
theorem zOa:qA aD 166=true:=by kernel_rfl
theorem zOb:qA aD 167=true:=by kernel_rfl
theorem zOc:qA aD 168=true:=by kernel_rfl
theorem zLe:qA aD 169=true:=by kernel_rfl
theorem zOf:qA aD 225=true:=by kernel_rfl
theorem zOg:qA aD 235=true:=by kernel_rfl
theorem zOh:qA aD 237=true:=by kernel_rfl
theorem zLf:qA aD 238=true:=by kernel_rfl
end Go.Proofs.YtejmkibjpaoahaaGreatDoor.Tab
namespace Go.Proofs.YtejmkibjpaoahaaGreatDoor
open Go Go.Proofs Go.Eng Tab
set_option maxHeartbeats 1000000
def zD3:=(aF @zD2 (aF @zDX @sz3))
def zCp:=(aF (aF @zD2 @by3) (aF @zDX (aF @sz3 @Tryz.underlying29)))
theorem zLV (n lo hi:Int)(p q:Nat)(h:Heap)(hp:h[p]? =some (.cells #[.int .i64 lo] 3))(hq:h[q]? =some (.cells #[.int .i64 hi] 3)):
 ak aD 107 (#[]++ #[.int .i64 n]++ #[.pointer (some ⟨p,0,none⟩),.pointer (some ⟨q,0,none⟩)]) h (fun v h'=>v= .bool (decide (n<lo)||decide (hi<n))/\Ext h h'):=by
 simp only[eP,cZ,eB,kD,kL]
 (refine Rm Tryz.func107 rfl zOW ?_;simp only[Tryz.ntmps107,Tryz.results107,coreS,U1,splice,aC,af,seval,zD3])
 simp only[hp,hq,coreS,U1,splice,aC,af,seval,zD3];constructor
 .intro g;simp[g,Ext.refl]
 .intro g;simp[g,Ext.refl]
def idx (p:Int->Bool)(xs:List Int):Int:=match xs.findIdx? p with|some i=>i|none=> -1
theorem zFa {p:Int->Bool}{xs:List Int}(H:∀j<xs.length,p (xs.getD j 0)=false):idx p xs= -1:=by
 have:xs.findIdx? p=none:=by
  rw[bM];intro x m;obtain⟨j,g,rfl⟩:=List.getElem_of_mem m;have:=H j g;simpa[eD,aS g]using this
 simp[idx,this]
theorem zFb {p:Int->Bool}{xs:List Int}{i:Nat}(hi:i<xs.length)(H:∀j<i,p (xs.getD j 0)=false)(hp:p (xs.getD i 0)=true):idx p xs=i:=by
 have:xs.findIdx? p=some i:=by
  rw[bD];refine⟨hi,by simpa[eD,aS hi]using hp,fun j m=> ?_⟩;have g:j<xs.length:=by omega
  have:=H j m;simpa[eD,aS g]using this
 simp[idx,this]
theorem zIO (a:Option Addr)(n c:Nat)(xs:List Int)(q:FuncId)(caps:Array Value)(p:Int->Bool)(h:Heap)(hs:eu h a n xs)(hl:n<=1000000)
 (hq:∀x∈xs,∀h',Ext h h'->ak aD q (#[]++ #[.int .i64 x]++caps) h' (fun v h''=>v= .bool (p x)/\Ext h' h'')):
 ak aD 161 #[.slice a n c,.func (.func q) #[] caps] h (fun v h'=>v= .int .i64 (idx p xs)/\Ext h h'):=by
 have N:=hs.len
 (refine Rm Tryz.func161 rfl zLc ?_;simp only[Tryz.ntmps161,Tryz.results161,coreS,U1,splice,aC,af,seval,zCp])
 refine zAi [4,5,8,9,10,11,12,13,14,15,16,17,18] (fun g h'=>∃i:Nat,i<=n/\g 8= .int .i64 i/\(∀j<i,p (xs.getD j 0)=false)/\Ext h h') (fun g _=>match g 8 with| .int _ m=>n-m.toNat|_=>0) ?_ ?_
 .exact⟨0,by omega,rfl,fun j I=>by omega,Ext.refl h⟩
 .intro g h' J;obtain⟨i,L,z,s,u⟩:=J;by_cases F:i<xs.length
  .simp only[z,(hs.ext u).cell F,coreS,aC,af,seval,zCp];refine⟨fun C=>⟨⟨by omega,by omega⟩,(hs.ext u).isSome (by omega),?_⟩,fun B=>absurd B (by omega)⟩;have D:xs.getD i 0∈xs:=by simp[eD,aS F]
   refine ak.mono (hq _ D _ u) ?_;rintro v M ⟨rfl,E⟩;cases hp:p (xs.getD i 0)
   .simp only[coreS,aC,af,seval,zCp];refine⟨by rw[zBS];omega,Zr (by kernel_rfl) ⟨i+1,by omega,rfl,?_,u.trans E⟩ ?_⟩
    .intro j I;by_cases H:j=i
     .subst H;exact hp
     .exact s j (by omega)
    .show n-((i:Int)+1).toNat<n-(i:Int).toNat;omega
   .simp only[coreS,aC,af,seval,zCp];exact⟨by rw[zFb F s hp],u.trans E⟩
  .simp only[z,coreS,aC,af,seval,zCp];refine⟨fun C=>absurd C (by omega),fun B=> ?_⟩;exact⟨by rw[zFa fun j I=>s j (by omega)],u⟩
theorem zGX (a:Option Addr)(n c:Nat)(xs:List Int)(q:FuncId)(caps:Array Value)(p:Int->Bool)(h:Heap)(hs:eu h a n xs)(hl:n<=1000000)
 (hq:∀x∈xs,∀h',Ext h h'->ak aD q (#[]++ #[.int .i64 x]++caps) h' (fun v h''=>v= .bool (p x)/\Ext h' h'')):
 ak aD 94 #[.slice a n c,.func (.func q) #[] caps] h (fun v h'=>v= .bool (xs.any p)/\Ext h h'):=by
 (refine Rm Tryz.func94 rfl zOB ?_;simp only[Tryz.ntmps94,Tryz.results94,coreS,U1,splice,aC,af,seval])
 refine ak.mono (zIO a n c xs q caps p h hs hl hq) ?_;rintro v s ⟨rfl,g⟩;simp only[coreS,aC,af,seval];refine⟨?_,g⟩;congr 1;unfold idx;cases hf:xs.findIdx? p with
 |none=>
  rw[bM]at hf;have:xs.any p=false:=by rw[dC];intro x g;simp[hf x g]
  simp[this]
 |some i=>
  rw[bD]at hf;obtain⟨j,m,_⟩:=hf;have:xs.any p=true:=by rw[dS];exact⟨xs[i],bE j,m⟩
  simp[this]
def inB (lo hi:Int)(xs:List Int):Bool:=xs.all fun x=>decide (lo<=x)&&decide (x<=hi)
theorem zDz (lo hi:Int)(a:Option Addr)(n c:Nat)(xs:List Int)(h:Heap)(hs:eu h a n xs)(hl:n<=1000000):
 ak aD 47 #[.int .i64 lo,.int .i64 hi,.slice a n c] h (fun v h'=>v= .bool (inB lo hi xs)/\Ext h h'):=by
 (refine Rm Tryz.func47 rfl zQA ?_;simp only[Tryz.ntmps47,Tryz.results47,coreS,U1,splice,aC,af,seval])
 refine ak.mono (zGX a n c xs 107 _ (fun x=>decide (x<lo)||decide (hi<x)) _ ((hs.push _).push _) hl ?_) ?_
 .intro x _ h' g;exact zLV x lo hi _ _ h' (g.get (by simp only[uo,Rh,Nat.left_eq_add,Nat.succ_ne_self,if_false,if_true])) (g.get (by simp only[uo,Rh,if_true]))
 .rintro v j ⟨rfl,g⟩;simp only[coreS,aC,af,seval];refine⟨?_,g.zBe.zBe⟩;congr 1;simp only[inB,List.not_any_eq_all_not];congr 1;funext x;by_cases m:x<lo<;>by_cases j:hi<x<;>simp[m,j,Int.not_lt.1,Int.not_le]<;>omega
end Go.Proofs.YtejmkibjpaoahaaGreatDoor
namespace Go.Proofs.YtejmkibjpaoahaaGreatDoor
open Go Go.Proofs Go.Eng Tab
section
variable {h:Eng.Heap}{x:Int}
set_option maxHeartbeats 1000000
def zCg:=(aF (aF (aF @zFq (aF @zD2 @by3)) (aF @zE9 (aF @zEt @zEu))) (aF (aF @zIL (aF @zFP @zDX)) (aF (aF @sz2 @sz3) (aF @zDf @Tryz.underlying29))))
def zCv:=(aF (aF @zFS @zGn) (aF @zDx (aF @zEl @Tryz.underlying33)))
def zEA:=(aF (aF (aF @zFq @zD2) (aF @zE9 (aF @zEt @zEu))) (aF (aF @zIL @zFP) (aF @zDX (aF @sz2 @sz3))))
def zDK:=(aF (aF @zD2 (aF @zFS @zEO)) (aF (aF @zDX @zDx) (aF @sz3 @zEl)))
def zDs:=(aF (aF @zD2 @zE9) (aF @zDX @sz3))
def zC2:=(aF (aF @zFS @zGn) (aF @zDx (aF @zEl @Tryz.underlying33)))
def zDt:=(aF (aF @zD2 @zEt) (aF @zEu (aF @zDX @sz3)))
theorem zDD {b:Nat}{ct:TypeId}{fr:Nat×Nat}(hb:h[b]? =some (.cells #[.int .i64 x] ct fr)):eu h (some ⟨b,0,none⟩) 1 [x]:=eu.block (xs:=[x]) hb
theorem pn1 {o o':Obj}:((h.push o).push o')[h.size+1]? =some o':=by rw[ed,if_pos (by simp)]
theorem pn0 {o o':Obj}:((h.push o).push o')[h.size]? =some o:=by rw[ed,if_neg (by simp)];exact jD
theorem zGC {b:Nat}{y:Int}{ct:TypeId}{fr:Nat×Nat}(hb:h[b]? =some (.cells #[.int .i64 x,.int .i64 y] ct fr)):eu h (some ⟨b,0,none⟩) 2 [x,y]:=eu.block (xs:=[x,y]) hb
theorem zDW {lo hi:Int}:inB lo hi [x]=decide (lo<=x/\x<=hi):=by simp[inB]
theorem zEV {lo hi y:Int}:inB lo hi [x,y]=decide ((lo<=x/\x<=hi)/\lo<=y/\y<=hi):=by simp[inB]
structure En where
 d:Int
 f:Int
 t:Int
 a:Int
 deriving DecidableEq
def enV (e:En):List Value:=[.int .i64 e.d,.int .i64 e.f,.int .i64 e.t,.int .i64 e.a]
def zDA (es:List En):List Value:=es.flatMap enV
theorem zFF (e:En)(es:List En):zDA (e::es)=enV e++zDA es:=rfl
theorem zEr (es fs:List En):zDA (es++fs)=zDA es++zDA fs:=by simp[zDA]
theorem zDB (es:List En):(zDA es).length=es.length*4:=by
 induction es with
 |nil=>rfl
 |cons e es ih=>rw[zFF,bI,ih];simp[enV];omega
theorem zH5:∀(es:List En) (j:Nat),(zDA es).drop (j*4)=zDA (es.drop j)
 |es,0=>by simp
 |[],j+1=>by simp[zDA]
 |e::es,j+1=>by
  have g:(j+1)*4=4+j*4:=by omega
  rw[zFF,g,<-gY];have:(enV e++zDA es).drop 4=zDA es:=by simp[enV]
  rw[this,zH5 es j];rfl
theorem zFu:∀(es:List En) (j:Nat),(zDA es).take (j*4)=zDA (es.take j)
 |es,0=>by simp[zDA]
 |[],j+1=>by simp[zDA]
 |e::es,j+1=>by
  have g:(j+1)*4=4+j*4:=by omega
  rw[zFF,g,List.take_add];have m:(enV e++zDA es).take 4=enV e:=by simp[enV]
  have p:(enV e++zDA es).drop 4=zDA es:=by simp[enV]
  rw[m,p,zFu es j];rfl
theorem zGw (es:List En)(j:Nat)(hj:j<es.length):((zDA es).drop (j*4)).take 4=enV es[j]:=by
 have g:((zDA es).drop (j*4)).take (1*4)=zDA ((es.drop j).take 1):=by rw[zH5,zFu]
 rw[Nat.one_mul]at g;rw[g,List.drop_eq_getElem_cons hj];simp only[List.take_succ_cons,nY,zDA,List.flatMap_cons,List.flatMap_nil,List.append_nil]
theorem zNK (es:List En)(j k:Nat)(hj:j<es.length)(hk:k<4):(zDA es)[j*4+k]? =(enV es[j])[k]? :=by
 have h:=zGw es j hj;have:(((zDA es).drop (j*4)).take 4)[k]? =(enV es[j])[k]? :=by rw[h]
 rwa[List.getElem?_take,if_pos hk,List.getElem?_drop]at this
def okE (acc:Int)(e:En):Prop:=(1<=e.d/\e.d<=30)/\(0<=e.f/\e.f<acc)/\(0<=e.t/\e.t<acc)/\(1<=e.a/\e.a<=1000)
instance (acc:Int)(e:En):Decidable (okE acc e):=by unfold okE;infer_instance
theorem zKT (acc:Int)(e:En)(h:Eng.Heap)(ha: -9223372036854775808<acc/\acc<=9223372036854775807):
 ak aD 40 #[.int .i64 acc,.agg #[.int .i64 e.d,.int .i64 e.f,.int .i64 e.t,.int .i64 e.a]] h (fun v h'=>v= .bool (!decide (okE acc e))/\Ext h h'):=by
 (refine Rm Tryz.func40 rfl zPt ?_;simp only[Tryz.ntmps40,Tryz.results40,coreS,U1,splice,aC,af,seval,zCg])
 refine ak.mono (zDz 1 30 _ 1 1 [e.d] _ (zDD pn1) (by omega)) ?_;rintro v B ⟨rfl,D⟩;have p:=D.get pn0;have F:=D.zBe.zBe;by_cases C:1<=e.d/\e.d<=30
 .simp only[zDW,C,p,and_self,decide_true,bz,splice,coreS,aC,af,seval,zCg];refine⟨by rw[zBS];omega,?_⟩;refine ak.mono (zDz 0 (acc-1) _ 2 2 [e.f,e.t] _ (zGC jD) (by omega)) ?_;rintro v H ⟨rfl,E⟩;have q:=(E.zBe).get p;have z:=F.trans E.zBe;by_cases u:(0<=e.f/\e.f<=acc-1)/\0<=e.t/\e.t<=acc-1
  .have g:decide (okE acc e)=(decide (1<=e.a)&&decide (e.a<=1000)):=by
    rw[<-Bool.decide_and];refine decide_eq_decide.2 ?_;unfold okE;omega
   by_cases m:e.a<1
   .have j:¬1<=e.a:=by omega
    simp only[zEV,u,q,m,j,g,and_self,decide_true,decide_false,bz,aZ,Bool.false_and,coreS,aC,af,seval,zCg];exact z
   .have j:1<=e.a:=by omega
    have s:decide (1000<e.a)= !decide (e.a<=1000):=by by_cases B:e.a<=1000<;>simp[B]<;>omega
    simp only[zEV,u,q,m,j,g,s,and_self,decide_true,decide_false,bz,aZ,Bool.true_and,coreS,aC,af,seval,zCg];exact z
  .have g:¬okE acc e:=by unfold okE;omega
   simp only[zEV,u,g,decide_false,aZ,coreS,aC,af,seval,zCg];exact z
 .have g:¬okE acc e:=by unfold okE;omega
  simp only[zDW,C,g,decide_false,aZ,coreS,aC,af,seval,zCg];exact F
theorem zKz (acc:Int)(e:En)(h:Eng.Heap):
 ak aD 45 #[.int .i64 acc,.agg #[.int .i64 e.d,.int .i64 e.f,.int .i64 e.t,.int .i64 e.a]] h (fun v h'=>v= .int .i64 (if okE acc e then 0 else 3)/\Ext h h'):=by
 (refine Rm Tryz.func45 rfl zPy ?_;simp only[Tryz.ntmps45,Tryz.results45,coreS,U1,splice,aC,af,seval,zEA])
 have y:Ext h (h.push (.cells #[.int .i64 e.d,.int .i64 e.f,.int .i64 e.t,.int .i64 e.a] 39)):=(Ext.refl h).push _;refine⟨fun g=> ?_,fun g=>⟨fun j=> ?_,fun j=>⟨fun m=> ?_,fun m=>⟨fun p=> ?_,fun p=>⟨fun q=> ?_,fun q=>⟨fun s=> ?_,fun s=>⟨fun u=> ?_,fun u=>⟨fun z=> ?_,fun z=> ?_⟩⟩⟩⟩⟩⟩⟩⟩
 all_goals refine⟨?_,y⟩
 case refine_9=>rw[if_pos (by unfold okE;omega)]
 all_goals rw[if_neg (by unfold okE;omega)]
theorem zK6 (acc cl:Int)(sl:Value)(e:En)(b:Nat)(h:Eng.Heap)(hb:h[b]? =some (.cells #[.int .i64 acc,.int .i64 cl,sl] 35))(ha: -9223372036854775808<acc/\acc<=9223372036854775807):
 ak aD 100 #[.agg #[.int .i64 e.d,.int .i64 e.f,.int .i64 e.t,.int .i64 e.a],.pointer (some ⟨b,0,none⟩)] h (fun v h'=>v= .bool (!decide (okE acc e))/\Ext h h'):=by
 (refine Rm Tryz.func100 rfl zOR ?_;simp only[Tryz.ntmps100,Tryz.results100,coreS,U1,splice,aC,af,seval,zDK])
 have g:¬(b=h.size):=by have:=bA hb;omega
 simp only[g,hb,if_false,coreS,aC,af,seval,zDK];refine ak.mono (zKT acc e _ ha) ?_;rintro v m ⟨rfl,j⟩;simp only[coreS,aC,af,seval,zDK];exact j.zBe
theorem zK7 (x y:En)(h:Eng.Heap)(hd:InK .i64 (x.d-y.d)):
 ak aD 101 #[.agg #[.int .i64 x.d,.int .i64 x.f,.int .i64 x.t,.int .i64 x.a],.agg #[.int .i64 y.d,.int .i64 y.f,.int .i64 y.t,.int .i64 y.a]] h (fun v h'=>v= .int .i64 (x.d-y.d)/\Ext h h'):=by
 (refine Rm Tryz.func101 rfl zOS ?_;simp only[Tryz.ntmps101,Tryz.results101,coreS,U1,splice,aC,af,seval,zDs])
 exact⟨hd,((Ext.refl h).push _).push _⟩
theorem zK8 (e:En)(h:Eng.Heap):
 ak aD 104 #[.agg #[.int .i64 e.d,.int .i64 e.f,.int .i64 e.t,.int .i64 e.a]] h (fun v h'=>v= .bool (decide (e.f=e.t))/\Ext h h'):=by
 (refine Rm Tryz.func104 rfl zOV ?_;simp only[Tryz.ntmps104,Tryz.results104,coreS,U1,splice,aC,af,seval,zDt])
 exact(Ext.refl h).push _
def zIq (p:En->Bool)(es:List En):Int:=match es.findIdx? p with|some i=>i|none=> -1
theorem zKj {p:En->Bool}{es:List En}(H:∀e∈es,p e=false):zIq p es= -1:=by
 have:es.findIdx? p=none:=by rw[bM];exact fun x g=>by simp[H x g]
 simp[zIq,this]
theorem zKk {p:En->Bool}{es:List En}{i:Nat}(hi:i<es.length)(H:∀e∈es.take i,p e=false)(hp:p es[i]=true):zIq p es=i:=by
 have:es.findIdx? p=some i:=by
  rw[bD];refine⟨hi,hp,fun j m=> ?_⟩;have g:j<es.length:=by omega
  have:=H es[j] (by rw[List.mem_take_iff_getElem];exact⟨j,by omega,rfl⟩);simp[this]
 simp[zIq,this]
theorem zGL (a:Option Addr)(n c:Nat)(es:List En)(q:FuncId)(caps:Array Value)(p:En->Bool)(h:Eng.Heap)(hr:Row h a (zDA es))(hn:n=es.length)(hl:n<=1000000)
 (hq:∀e∈es,∀h',Ext h h'->ak aD q (#[]++ #[.agg #[.int .i64 e.d,.int .i64 e.f,.int .i64 e.t,.int .i64 e.a]]++caps) h' (fun v h''=>v= .bool (p e)/\Ext h' h'')):
 ak aD 41 #[.slice a n c,.func (.func q) #[] caps] h (fun v h'=>v= .int .i64 (zIq p es)/\Ext h h'):=by
 (refine Rm Tryz.func41 rfl zPu ?_;simp only[Tryz.ntmps41,Tryz.results41,coreS,U1,splice,aC,af,seval,zCv])
 refine zAi [4,5,8,9,10,11,12,13,14,15,16,17,18] (fun g h'=>∃i:Nat,i<=n/\g 8= .int .i64 i/\(∀e∈es.take i,p e=false)/\Ext h h') (fun g _=>match g 8 with| .int _ m=>n-m.toNat|_=>0) ?_ ?_
 .exact⟨0,by omega,rfl,by simp,Ext.refl h⟩
 .rintro g h' ⟨i,L,u,s,C⟩;by_cases F:i<es.length
  .have I:a.isSome=true:=hr.isSome (by rw[zDB];omega);have H:gm h' (lg a (i*4)) 4=some [.int .i64 es[i].d,.int .i64 es[i].f,.int .i64 es[i].t,.int .i64 es[i].a]:=by
    have:=(hr.ext C).cells (j:=i*4) (n:=4) (by rw[zDB];omega) (by omega);rw[zGw es i F]at this;exact this
   simp only[u,H,coreS,aC,af,seval,zCv];refine⟨fun B=>⟨⟨by omega,by omega⟩,I,?_⟩,fun z=>absurd z (by omega)⟩;refine ak.mono (hq _ (bE F) _ C) ?_;rintro v M ⟨rfl,D⟩;have J:es.take (i+1)=es.take i++[es[i]]:=by rw[dG,aS F];rfl
   cases hp:p es[i]
   .simp only[coreS,aC,af,seval,zCv];refine⟨by rw[zBS];omega,Zr (by kernel_rfl) ⟨i+1,by omega,rfl,fun e E=> ?_,C.trans D⟩ ?_⟩
    .rw[J,kE,fe]at E;rcases E with E|rfl
     .exact s e E
     .exact hp
    .show n-((i:Int)+1).toNat<n-(i:Int).toNat;omega
   .simp only[coreS,aC,af,seval,zCv];exact⟨by rw[zKk F s hp],C.trans D⟩
  .simp only[u,coreS,aC,af,seval,zCv];refine⟨fun B=>absurd B (by omega),fun z=> ?_⟩;rw[aN (by omega)]at s;exact⟨by rw[zKj s],C⟩
theorem zEq (a:Option Addr)(n c:Nat)(es:List En)(q:FuncId)(caps:Array Value)(p:En->Bool)(h:Eng.Heap)(hr:Row h a (zDA es))(hn:n=es.length)(hl:n<=1000000)
 (hq:∀e∈es,∀h',Ext h h'->ak aD q (#[]++ #[.agg #[.int .i64 e.d,.int .i64 e.f,.int .i64 e.t,.int .i64 e.a]]++caps) h' (fun v h''=>v= .bool (p e)/\Ext h' h'')):
 ak aD 102 #[.slice a n c,.func (.func q) #[] caps] h (fun v h'=>v= .bool (es.any p)/\Ext h h'):=by
 (refine Rm Tryz.func102 rfl zOT ?_;simp only[Tryz.ntmps102,Tryz.results102,coreS,U1,splice,aC,af,seval])
 refine ak.mono (zGL a n c es q caps p h hr hn hl hq) ?_;rintro v s ⟨rfl,g⟩;simp only[coreS,aC,af,seval];refine⟨?_,g⟩;congr 1;unfold zIq;cases hf:es.findIdx? p with
 |none=>
  rw[bM]at hf;have:es.any p=false:=by rw[dC];intro x g;simp[hf x g]
  simp[this]
 |some i=>
  rw[bD]at hf;obtain⟨j,m,_⟩:=hf;have:es.any p=true:=by rw[dS];exact⟨es[i],bE j,m⟩
  simp[this]
theorem zLH {a:Option Addr}{es:List En}(hr:Row h a (zDA es)){i:Nat}(hi:i<es.length):gm h (lg a (i*4)) 4=some [.int .i64 es[i].d,.int .i64 es[i].f,.int .i64 es[i].t,.int .i64 es[i].a]:=by
 have:=hr.cells (j:=i*4) (n:=4) (by rw[zDB];omega) (by omega);rw[zGw es i hi]at this;exact this
def zEX (es:List En):Prop:=∀i (hi:i+1<es.length),(es[i]'(by omega)).d<=es[i+1].d
theorem zJb (a:Option Addr)(n c:Nat)(es:List En)(h:Eng.Heap)(hr:Row h a (zDA es))(hn:n=es.length)(hl:n<=1000000)(hd:∀e∈es,0<=e.d/\e.d<=1000000):
 ak aD 103 #[.slice a n c,.func (.func 101) #[] #[]] h (fun v h'=>∃b:Bool,v= .bool b/\(b=true<->zEX es)/\Ext h h'):=by
 (refine Rm Tryz.func103 rfl zOU ?_;simp only[Tryz.ntmps103,Tryz.results103,coreS,U1,splice,aC,af,seval,zC2])
 refine⟨by rw[zBS];omega,?_⟩;refine zAi [4,5,9,10,11,12,13,14,15,16,17,18,19,20,21,22,23,24] (fun g h'=>∃i:Int,-1<=i/\i<n/\g 5= .int .i64 i/\(∀j (s:j+1<es.length),i<j+1->(es[j]'(by omega)).d<=es[j+1].d)/\Ext h h') (fun g _=>match g 5 with| .int _ m=>(m+1).toNat|_=>0) ⟨(n:Int)-1,by omega,by omega,rfl,fun j s M=>by omega,Ext.refl h⟩ ?_;rintro g h' ⟨i,O,Q,p,C,B⟩;by_cases L:0<i
 .obtain⟨k,rfl⟩:∃k:Nat,i=(k:Int)+1:=⟨(i-1).toNat,by omega⟩;have J:k+1<es.length:=by omega
  have z:a.isSome=true:=hr.isSome (by rw[zDB];omega);have F:=zLH (hr.ext B) J;have H:=zLH (hr.ext B) (show k<es.length by omega);have S:((k:Int)+1).toNat=k+1:=by omega
  have T:((k:Int)+1-1)=k:=by omega
  have U:=hd _ (bE J);have V:=hd _ (bE (show k<es.length by omega));simp only[p,L,decide_true,coreS,aC,af,seval,zC2];refine zB9 (by kernel_rfl) zBc [(0,0),(1,0),(2,0),(3,0),(4,0),(5,0),(6,0),(7,0),(8,0),(9,0),(10,0),(11,0)] (by kernel_rfl) rfl (by kernel_rfl) ?_;simp only[p,S,T,F,H,aY,coreS,aC,af,seval,drawS,zC2];refine⟨by omega,z,by rw[zBS];omega,by omega,z,?_⟩;refine zCC _ (fun E D=>ak.mono (zK7 es[k+1] es[k] E (by rw[zBS];omega)) fun v W q=>⟨q.1,q.2⟩) ?_;by_cases u:es[k+1].d-es[k].d<0
  .simp only[u,decide_true,coreS,aC,af,seval,drawS,zC2];refine zBw fun E D=> ?_
   simp only[coreS,aC,af,seval,drawS,zC2];exact⟨false,rfl,⟨fun N=>(by cases N),fun C=>by have:=C k J;omega⟩,B.trans D⟩
  .simp only[u,decide_false,coreS,aC,af,seval,drawS,zC2];refine zBw fun E D=> ?_
   simp only[coreS,aC,af,seval,drawS,zC2];refine⟨by rw[zBS];omega,Zr (by kernel_rfl) ⟨(k:Int)+1-1,by omega,by omega,rfl,fun j s M=> ?_,B.trans D⟩ ?_⟩
   .by_cases I:j=k
    .subst I;omega
    .exact C j s (by omega)
   .show((k:Int)+1-1+1).toNat<((k:Int)+1+1).toNat;omega
 .simp only[p,L,decide_false,coreS,aC,af,seval,zC2];exact⟨true,rfl,⟨fun _ j s=>C j s (by omega),fun _=>rfl⟩,B⟩
end
end Go.Proofs.YtejmkibjpaoahaaGreatDoor
namespace Go.Proofs.YtejmkibjpaoahaaGreatDoor
open Go Go.Proofs Go.Eng Tab
set_option maxHeartbeats 1000000
def zCY:=(aF (aF (aF @zD2 (aF @zH0 @by3)) (aF @zEO (aF @zJ7 @zFv))) (aF (aF @zDX (aF @zHd @sz3)) (aF (aF @zLN @zDf) (aF @Tryz.underlying29 @Tryz.underlying33))))
noncomputable instance (es:List En):Decidable (zEX es):=iL _
noncomputable def chk (acc cl:Int)(es:List En):Int:=
 if¬(2<=acc/\acc<=8)\/20<es.length then 6
 else if¬(0<=cl/\cl<=30)\/¬(∀e∈es,okE acc e)then 3
 else if¬zEX es\/∃e∈es,e.f=e.t then 16
 else 0
theorem zJy (acc cl:Int)(a:Option Addr)(n c:Nat)(es:List En)(h:Eng.Heap)(hr:Row h a (zDA es))(hn:n=es.length)(hl:n<=1000000):
 ak aD 39 #[.agg #[.int .i64 acc,.int .i64 cl,.slice a n c]] h (fun v h'=>v= .int .i64 (chk acc cl es)/\Ext h h'):=by
 (refine Rm Tryz.func39 rfl zPs ?_;simp only[Tryz.ntmps39,Tryz.results39,coreS,U1,splice,aC,af,seval,zCY])
 refine ak.mono (zDz 2 8 _ 1 1 [acc] _ (zDD pn1) (by omega)) ?_;rintro v C ⟨rfl,S⟩;have z:=S.get pn0;have I:=S.zBe.zBe;by_cases H:2<=acc/\acc<=8
 .by_cases O:20<(n:Int)
  .have m:chk acc cl es=6:=by unfold chk;rw[if_pos (.inr (by omega))]
   simp only[zDW,H,z,O,m,and_self,decide_true,bz,coreS,aC,af,seval,zCY];exact I
  .simp only[zDW,H,z,O,and_self,decide_true,decide_false,bz,coreS,aC,af,seval,zCY];refine ak.mono (zDz 0 30 _ 1 1 [cl] _ (zDD jD) (by omega)) ?_;rintro v X ⟨rfl,T⟩;have B:=T.zBe.get z;have J:=I.trans T.zBe;by_cases p:0<=cl/\cl<=30
   .simp only[zDW,p,B,and_self,decide_true,bz,coreS,aC,af,seval,zCY];refine ak.mono (zEq a n c es 100 _ (fun e=> !decide (okE acc e)) X (hr.ext J) hn hl fun e _ h' Q=>zK6 acc cl _ e _ h' (Q.get B) (by omega)) ?_;rintro v Y ⟨rfl,U⟩;have D:=U.get B;have L:=J.trans U;by_cases g:∀e∈es,okE acc e
    .have q:(es.any fun e=> !decide (okE acc e))=false:=by
      rw[dC];intro e s;simp[g e s]
     simp only[q,D,coreS,aC,af,seval,zCY];refine ak.mono (zJb a n c es Y (hr.ext L) hn hl fun e s=>by have:=(g e s).1;omega) ?_;rintro v Z ⟨b,rfl,N,V⟩;have E:=V.get D;have M:=L.trans V;cases b with
     |false=>
      have F:¬zEX es:=fun F=>by have:=N.2 F;cases this
      have m:chk acc cl es=16:=by
       unfold chk;rw[if_neg (by omega),if_neg (by rintro(h|h);exact h p;exact h g),if_pos (.inl F)]
      simp only[E,m,coreS,aC,af,seval,zCY];exact M
     |true=>
      have F:zEX es:=N.1 rfl;simp only[E,coreS,aC,af,seval,zCY];refine ak.mono (zEq a n c es 104 #[] (fun e=>decide (e.f=e.t)) Z (hr.ext M) hn hl fun e _ h' Q=>zK8 e h') ?_;rintro v h5 ⟨rfl,x5⟩;have W:=M.trans x5;by_cases u:∃e∈es,e.f=e.t
      .have j:(es.any fun e=>decide (e.f=e.t))=true:=by
        obtain⟨e,s,C⟩:=u;rw[dS];exact⟨e,s,by simp[C]⟩
       have m:chk acc cl es=16:=by
        unfold chk;rw[if_neg (by omega),if_neg (by rintro(h|h);exact h p;exact h g),if_pos (.inr u)]
       simp only[j,m,coreS,aC,af,seval,zCY];exact W
      .have j:(es.any fun e=>decide (e.f=e.t))=false:=by
        rw[dC];intro e s;simp;exact fun C=>u ⟨e,s,C⟩
       have m:chk acc cl es=0:=by
        unfold chk;rw[if_neg (by omega),if_neg (by rintro(h|h);exact h p;exact h g),if_neg (by rintro(h|h);exact h F;exact u h)]
       simp only[j,m,coreS,aC,af,seval,zCY];exact W
    .have q:(es.any fun e=> !decide (okE acc e))=true:=by
      rw[dS];simp only[Classical.not_forall]at g;obtain⟨e,s,C⟩:=g;exact⟨e,s,by simp[C]⟩
     have m:chk acc cl es=3:=by unfold chk;rw[if_neg (by omega),if_pos (.inr g)]
     simp only[q,m,coreS,aC,af,seval,zCY];exact L
   .have m:chk acc cl es=3:=by unfold chk;rw[if_neg (by omega),if_pos (.inl p)]
    simp only[zDW,p,m,decide_false,aZ,coreS,aC,af,seval,zCY];exact J
 .have m:chk acc cl es=6:=by unfold chk;rw[if_pos (.inl H)]
  simp only[zDW,H,m,decide_false,aZ,coreS,aC,af,seval,zCY];exact I
end Go.Proofs.YtejmkibjpaoahaaGreatDoor
namespace Go.Proofs.YtejmkibjpaoahaaGreatDoor
open Go Go.Proofs Go.Eng Tab
section
variable {h:Eng.Heap}
set_option maxHeartbeats 1000000
def zCT:=(aF (aF (aF (aF @zD2 @zH0) (aF @zFS @zGn)) (aF (aF @zEO @zJ7) (aF @zFv @zE9))) (aF (aF (aF @zEt @zEu) (aF @zDX @zHd)) (aF (aF @zDx @sz3) (aF @zLN (aF @zEl @Tryz.underlying33)))))
theorem zDh {P:Program}{R:Eng.Heap->Eng.Heap->Prop}{s:Tmp}{w:Bool}{op:Op}{ty:TypeId}{all:List Oper}{rest:List (Nat×Nat)}{k:aj}{dst:Option Tmp}{e:Env}{d:List Deferred}:gq P R undef s w op ty all rest k dst e d h=bF P R all rest k (aU e dst undef) d h:=UQ
theorem Row.addr {a:Option Addr}{cs:List Value}(H:Row h a cs)(hl:0<cs.length):∃g off,a=some ⟨g,off,none⟩:=by
 rcases H with H|⟨g,off,j,p,q,m,_⟩
 .simp[H]at hl
 .exact⟨g,off,m⟩
theorem zNk {g off:Nat}{es:List En}(hr:Row h (some ⟨g,off,none⟩) (zDA es)){j:Nat}(hj:j<es.length)(k:Nat)(hk:k<4):jL h (some ⟨g,off+j*4+k,none⟩)=(enV es[j])[k]? :=by
 have m:=hr.cell (j:=j*4+k) (by rw[zDB];omega);have p:=zNK es j k hj hk;rw[aS (by rw[zDB];omega)]at p;rw[gK]at m;rw[Nat.add_assoc,m,p]
theorem zIE (acc cl:Int)(a:Option Addr)(n c:Nat)(es:List En)(h:Eng.Heap)(hr:Row h a (zDA es))(hn:n=es.length)(hl:n<=1000000):
 ak aD 12 #[.agg #[.int .i64 acc,.int .i64 cl,.slice a n c]] h (fun v h'=>v= .int .i64 (chk acc cl es)/\Ext h h'):=by
 (refine Rm Tryz.func12 rfl zPf ?_;simp only[Tryz.ntmps12,Tryz.results12,coreS,U1,splice,aC,af,seval,zCT])
 have Y:Ext h (h.push (.cells #[.int .i64 acc,.int .i64 cl,.slice a n c] 35)):=(Ext.refl h).push _;have W:∀{p:Prop},chk acc cl es=6->p->mK .i64 6=mK .i64 (chk acc cl es)/\p:=fun h hp=>⟨by rw[h],hp⟩
 refine⟨fun h1=> ?_,fun h1=>⟨fun F=> ?_,fun F=>⟨fun h3=> ?_,fun h3=> ?_⟩⟩⟩
 .exact W (by unfold chk;rw[if_pos (.inl (by omega))]) Y
 .exact W (by unfold chk;rw[if_pos (.inl (by omega))]) Y
 .exact W (by unfold chk;rw[if_pos (.inr (by omega))]) Y
 have x0b:(h.push (.cells #[.int .i64 acc,.int .i64 cl,.slice a n c] 35))[h.size]? =some (.cells #[.int .i64 acc,.int .i64 cl,.slice a n c] 35):=jD;refine⟨fun h4=> ?_,fun h4=>⟨fun h5=> ?_,fun h5=> ?_⟩⟩
 .exact⟨by rw[chk,if_neg (by omega),if_pos (.inl (by omega))],Y⟩
 .exact⟨by rw[chk,if_neg (by omega),if_pos (.inl (by omega))],Y⟩
 have k3:∀{e:En},e∈es->¬okE acc e->chk acc cl es=3:=fun B N=>by rw[chk,if_neg (by omega),if_pos (.inr fun hh=>N (hh _ B))]
 refine zAi [2,3,27,28,29,30,31,32,33,34,35,36,37,38,39,40,41,42] (fun g h'=>∃i:Nat,i<=n/\g 3= .int .i64 i/\(∀e∈es.take i,okE acc e)/\Ext (h.push (.cells #[.int .i64 acc,.int .i64 cl,.slice a n c] 35)) h') (fun g _=>match g 3 with| .int _ m=>n-m.toNat|_=>0) ⟨0,by omega,rfl,by simp,Ext.refl _⟩ ?_;rintro g h' ⟨i,hin,Q,H,hx⟩;have hb:=hx.get x0b;have V:=Y.trans hx;by_cases hi:i<es.length
 .have Z:a.isSome=true:=hr.isSome (by rw[zDB];omega);have hc1:=zLH (hr.ext V) hi;simp only[Q,hb,coreS,aC,af,seval,zCT];refine⟨fun _=> ?_,fun S=>absurd S (by omega)⟩;refine zB9 (by kernel_rfl) zBc [(0,0),(1,0),(2,0),(3,0),(4,0),(5,0),(6,0),(7,0),(8,0)] (by kernel_rfl) rfl (by kernel_rfl) ?_;simp only[Q,hb,hc1,aY,coreS,aC,af,seval,drawS,zCT];refine⟨by omega,Z,?_⟩;refine zCC _ (fun F x2=>ak.mono (zKz acc es[i] F) fun v h3 q=>⟨q.1,q.2⟩) ?_;have U:es.take (i+1)=es.take i++[es[i]]:=by rw[dG,aS hi];rfl
  by_cases ho:okE acc es[i]
  .simp only[ho,if_true,coreS,aC,af,seval,drawS,zCT];refine zBw fun F x2=> ?_
   simp only[coreS,aC,af,seval,drawS,zCT];refine⟨by rw[zBS];omega,Zr (by kernel_rfl) ⟨i+1,by omega,rfl,fun e B=> ?_,hx.trans x2⟩ ?_⟩
   .rw[U,kE,fe]at B;rcases B with B|rfl
    .exact H e B
    .exact ho
   .show n-((i:Int)+1).toNat<n-(i:Int).toNat;omega
  .simp only[ho,if_false,coreS,aC,af,seval,drawS,zCT];refine zBw fun F x2=> ?_
   simp only[coreS,aC,af,seval,drawS,zCT];exact⟨by rw[k3 (bE hi) ho],V.trans x2⟩
 .obtain rfl:i=n:=by omega
  rw[aN (by omega)]at H;simp only[Q,hb,coreS,aC,af,seval,zCT];refine⟨fun E=>absurd E (by omega),fun _=> ?_⟩;have k16:(¬zEX es\/∃e∈es,e.f=e.t)->chk acc cl es=16:=fun hh=>by rw[chk,if_neg (by omega),if_neg (by rintro(s|s);exact s ⟨by omega,by omega⟩;exact s H),if_pos hh]
  refine zAi [2,4,43,44,45,46,47,48,49,50,51,52,53,54,55,56,57,58,59,60,61,62,63,64,65,66,67,68,69,70,71,72,73,74,75,76,77,78,79,80,81,82] (fun g h''=>∃j:Nat,j<=i/\g 4= .int .i64 j/\(∀e∈es.take j,e.f≠e.t)/\(∀k (N:k+1<es.length),k+1<j->(es[k]'(by omega)).d<=es[k+1].d)/\Ext h' h'') (fun g _=>match g 4 with| .int _ m=>i-m.toNat|_=>0) ⟨0,by omega,rfl,by simp,fun k N s=>by omega,Ext.refl _⟩ ?_;rintro g2 F ⟨j,hjn,D,T,hso,J⟩;have z:=J.get hb;have u:=V.trans J;by_cases X:j<es.length
  .have Z:a.isSome=true:=hr.isSome (by rw[zDB];omega);obtain⟨g0,M,rfl⟩:=Row.addr hr (by rw[zDB];omega);have I:=hr.ext u;have c1:jL F (some ⟨g0,M+j*4+1,none⟩)=some (.int .i64 es[j].f):=zNk I X 1 (by omega);have c2:jL F (some ⟨g0,M+j*4+2,none⟩)=some (.int .i64 es[j].t):=zNk I X 2 (by omega);have c0:jL F (some ⟨g0,M+j*4,none⟩)=some (.int .i64 es[j].d):=zNk I X 0 (by omega);simp only[D,z,coreS,aC,af,seval,zCT];refine⟨fun _=> ?_,fun S=>absurd S (by omega)⟩;refine zB9 (by kernel_rfl) zBp [(0,0),(1,0),(2,0),(3,0),(4,0),(5,0),(6,0),(7,0),(8,0),(9,0),(10,0),(11,0),(12,0),(13,0),(14,0),(15,0),(16,0),(17,0),(18,0),(19,0),(20,0),(21,0),(22,0),(23,0),(24,0),(25,0),(26,0),(27,0),(28,0),(29,0),(30,0),(31,0),(32,0)] (by kernel_rfl) rfl (by kernel_rfl) ?_;by_cases C:es[j].f=es[j].t
   .simp only[D,z,c1,c2,c0,C,zDh,decide_true,gK,fo,aY,coreS,aC,af,seval,drawS,zCT];refine⟨by omega,by first|rfl|trivial,by omega,by first|rfl|trivial,?_⟩;exact⟨by rw[k16 (.inr ⟨_,bE X,C⟩)],u⟩
   .have U:es.take (j+1)=es.take j++[es[j]]:=by rw[dG,aS X];rfl
    have O:∀e∈es.take (j+1),e.f≠e.t:=fun e B=>by
     rw[U,kE,fe]at B;rcases B with B|rfl
     .exact T e B
     .exact C
    rcases j with _|m
    .have hz:¬((0:Nat):Int)>0:=by omega
     have L:¬(0:Int)<((0:Nat):Int):=by omega
     simp only[D,z,c1,c2,c0,C,hz,L,zDh,decide_false,gK,fo,aY,coreS,aC,af,seval,drawS,zCT];refine⟨by omega,by first|rfl|trivial,by omega,by first|rfl|trivial,?_⟩;refine⟨by rw[zBS];omega,Zr (by kernel_rfl) ⟨1,by omega,rfl,O,fun k N s=>by omega,J⟩ ?_⟩;show i-((0:Int)+1).toNat<i-(0:Int).toNat;omega
    .have L:(0:Int)<((m+1:Nat):Int):=by omega
     have t1:(((m+1:Nat):Int)-1).toNat=m:=by omega
     have hm:m<es.length:=by omega
     have c3:jL F (some ⟨g0,M+m*4,none⟩)=some (.int .i64 es[m].d):=zNk I hm 0 (by omega);by_cases E:es[m+1].d<es[m].d
     .simp only[D,z,c1,c2,c0,c3,t1,C,L,E,zDh,decide_true,decide_false,gK,fo,aY,coreS,aC,af,seval,drawS,zCT]
      repeat (refine aF (by first|omega|(rw[zBS];omega)|rfl|assumption) ?_)
      exact⟨by rw[k16 (.inl fun hs=>by have:=hs m X;omega)],u⟩
     .simp only[D,z,c1,c2,c0,c3,t1,C,L,E,zDh,decide_true,decide_false,gK,fo,aY,coreS,aC,af,seval,drawS,zCT]
      repeat (refine aF (by first|omega|(rw[zBS];omega)|rfl|assumption) ?_)
      refine Zr (by kernel_rfl) ⟨m+1+1,by omega,rfl,O,fun k N s=> ?_,J⟩ ?_
      .by_cases hkm:k=m
       .subst hkm;omega
       .exact hso k N (by omega)
      .show i-(((m+1:Nat):Int)+1).toNat<i-((m+1:Nat):Int).toNat;omega
  .obtain rfl:j=i:=by omega
   rw[aN (by omega)]at T;simp only[D,z,coreS,aC,af,seval,zCT];refine⟨fun E=>absurd E (by omega),fun _=> ?_⟩;have hc:chk acc cl es=0:=by
    rw[chk,if_neg (by omega),if_neg (by rintro(s|s);exact s ⟨by omega,by omega⟩;exact s H),if_neg];rintro(s|⟨e,B,s⟩)
    .exact s fun k N=>hso k N (by omega)
    .exact T e B s
   exact⟨by rw[hc],u⟩
end
end Go.Proofs.YtejmkibjpaoahaaGreatDoor
namespace Go.Proofs.YtejmkibjpaoahaaGreatDoor
open Go Go.Proofs Go.Eng Tab
set_option maxHeartbeats 1000000
def zCw:=(aF (aF @zEn (aF @zMA @zEw)) (aF @zPO (aF @zHV @zNu)))
noncomputable def opn (acc cl:Int)(es:List En)(days:List Int):Int:=if chk acc cl es≠0 then chk acc cl es else if inB 0 30 days then 0 else 3
theorem zGD (acc cl:Int)(a:Option Addr)(n c:Nat)(es:List En)(b:Option Addr)(m k:Nat)(days:List Int)(h:Eng.Heap)(hr:Row h a (zDA es))(hn:n=es.length)(hl:n<=1000000)(hd:eu h b m days)(hm:m<=1000000):
 ak aD 46 #[.agg #[.int .i64 acc,.int .i64 cl,.slice a n c],.slice b m k] h (fun v h'=>Ext h h'/\
  ((opn acc cl es days=0/\∃g,v= .tuple #[.pointer (some ⟨g,0,none⟩),.int .i64 0]/\h'[g]? =some (.cells #[.int .i64 acc,.int .i64 cl,.slice a n c] 181)/\h.size<=g)\/
   (opn acc cl es days≠0/\v= .tuple #[.pointer none,.int .i64 (opn acc cl es days)]))):=by
 (refine Rm Tryz.func46 rfl zPz ?_;simp only[Tryz.ntmps46,Tryz.results46,coreS,U1,splice,aC,af,seval,zCw])
 have H:Ext h (h.push (.cells #[.int .i64 acc,.int .i64 cl,.slice a n c] 35)):=(Ext.refl h).push _;refine ak.mono (zJy acc cl a n c es _ (hr.push _) hn hl) ?_;rintro v E ⟨rfl,C⟩;have s:=C.get (jD (h:=h));have u:=H.trans C;by_cases q:chk acc cl es=0
 .have j:opn acc cl es days=if inB 0 30 days then 0 else 3:=by rw[opn,if_neg (by simpa using q)]
  simp only[q,coreS,aC,af,seval,zCw];refine ak.mono (zDz 0 30 b m k days E (hd.ext u) hm) ?_;rintro v F ⟨rfl,D⟩;have p:=D.get s;have z:=u.trans D;cases hin:inB 0 30 days with
  |true=>
   rw[hin]at j;simp only[p,splice,coreS,aC,af,seval,zCw];exact⟨z.push _,.inl ⟨by simpa using j,F.size,rfl,by simp,z.size⟩⟩
  |false=>
   rw[hin]at j;have B:opn acc cl es days=3:=j;simp only[p,coreS,aC,af,seval,zCw];exact⟨z,.inr ⟨by rw[B];omega,by rw[B]⟩⟩
 .have j:opn acc cl es days=chk acc cl es:=by rw[opn,if_pos q]
  simp only[q,decide_false,aZ,coreS,aC,af,seval,zCw];exact⟨u,.inr ⟨by rw[j];exact q,by rw[j]⟩⟩
end Go.Proofs.YtejmkibjpaoahaaGreatDoor
namespace Go.Eng
open Go
attribute [local semireducible] aI iP gP lm WP
section fork
variable {P:Program}{l:Option Nat}{R:Heap->Heap->Prop}{G:Nat->Bool}
theorem CX {all:List Oper}{i:Nat}{o:Oper}{e:Env}{d:List Deferred}{w1:World}{Kx:Env->Heap->Prop}{Kf:Act->World->Prop}(hi:all[i]? =some o)(hg:o.guard=none)
 (H:opW P o.op o.type e w1.heap (fun v h''=>R w1.heap h''/\Kx (aU e o.dst v) h'')) (fin:∀e' w',Rest w1 w'->Kx e' w'.heap->Kf ⟨e'.toArray,d⟩ w'):
 opD P all.toArray i (fun a' w'=>(G i=true->R w1.heap w'.heap)/\Rest w1 w'/\Kf a' w') ⟨e.toArray,d⟩ w1:=by
 have u:all.toArray[i]? =some o:=by simpa using hi
 unfold opD;simp only[u];have D:Region.wanted o (yielded all.toArray e.toArray)=true:=by unfold Region.wanted;rw[hg]
 simp only[D,if_true];have s:=aM H;unfold aI at s;refine⟨s.1,?_⟩;have j:=s.2 w1 rfl;rw[dY,bW];have m:∀v w',Rest w1 w'->(R w1.heap w'.heap/\Kx (aU e o.dst v) w'.heap)->(G i=true->R w1.heap w'.heap)/\Rest w1 w'/\Kf ((Act.mk e.toArray d).put o.dst v) w':=by
  intro v w' q C;refine⟨fun _=>C.1,q,?_⟩;rw[ay];exact fin _ _ q C.2
 unfold dQ at j;unfold fH;split at j
 .exact⟨m _ _ j.2 j.1,j.2⟩
 .exact⟨m _ _ j.2 j.1,j.2⟩
 .exact⟨j.1,Calls.mono j.2 fun x p ⟨v,B,z,g⟩=>⟨v,B,m v p (j.1.trans g) z,g⟩⟩
 .exact⟨j.1,RoundIn.mono j.2 fun x p ⟨v,B,z,g⟩=>⟨v,B,m v p (j.1.trans g) z,g⟩⟩
 .exact j.elim
def Jh (P:Program)(R:Heap->Heap->Prop)(all:List Oper)(rs:List (Nat×Nat))(k:aj)(a b:Option Oper)(e:Env)(d:List Deferred)(h:Heap):Prop:=
 match a,b with
 |some a,some b=>opW P a.op a.type e h (fun v h1=>R h h1/\∀h2,R h1 h2->opW P b.op b.type (aU e a.dst v) h2 (fun u h3=>R h2 h3/\bF P R all rs k (aU (aU e a.dst v) b.dst u) d h3))
 |_,_=>False
def jg (P:Program)(R:Heap->Heap->Prop)(all:List Oper)(x y:Nat)(rs:List (Nat×Nat)):List (Nat×Nat)->aj->Env->List Deferred->Heap->Prop
 |[],k,e,d,h=>∀h',R h h'->Jh P R all rs k all[x]? all[y]? e d h'/\Jh P R all rs k all[y]? all[x]? e d h'
 |(i,0)::rest,k,e,d,h=>match all[i]? with
  |some o=>ax o.guard all e (fun e=>dK P R o.op o.type e h (fun v h'=>jg P R all x y rs rest k (aU e o.dst v) d h')) (fun e=>jg P R all x y rs rest k (aU e o.dst undef) d h)
  |none=>False
 |(i,3)::rest,k,e,d,h=>match all[i]? with
  |some o=>ax o.guard all e (fun e=>fK P o.op e h (fun v h'=>jg P R all x y rs rest k (aU e o.dst v) d h')) (fun e=>jg P R all x y rs rest k (aU e o.dst undef) d h)
  |none=>False
 |_::_,_,_,_,_=>False
def okF (G:Nat->Bool)(all:List Oper)(x y:Nat)(rs:List (Nat×Nat)):List (Nat×Nat)->Array Bool->Bool
 |[],listed=>(decide (Region.ready .any all.toArray listed=[x,y])&&(decide (Region.ready .any all.toArray (listed.setIfInBounds x true)=[y])&&(decide (Region.ready .any all.toArray (listed.setIfInBounds y true)=[x])&&(iZ G all rs ((listed.setIfInBounds x true).setIfInBounds y true)&&iZ G all rs ((listed.setIfInBounds y true).setIfInBounds x true)))))
 |(i,0)::rest,listed=>(Region.ready .any all.toArray listed).contains i&&vQ all listed i (blk all listed i all.length 0 [])&&
  ((kM all.length).all fun j=>j==i||listed.getD j true||(blk all listed i all.length 0 []).contains j||(G j&&(match all[i]?,all[j]? with|some oi,some oj=>oi.apart all.toArray oj|_,_=>true)))&&
  okF G all x y rs rest (listed.setIfInBounds i true)
 |(i,3)::rest,listed=>(Region.ready .any all.toArray listed).contains i&&vQ all listed i (blk all listed i all.length 0 [])&&
  ((kM all.length).all fun j=>j==i||listed.getD j true||(blk all listed i all.length 0 []).contains j||(match all[i]?,all[j]? with|some oi,some oj=>oi.apart all.toArray oj|_,_=>true))&&
  okF G all x y rs rest (listed.setIfInBounds i true)
 |_::_,_=>false
theorem Bj (hS:Sta R){all:List Oper}{k:aj}{w0:World}(hsel:Region.noSelect all.toArray=true)(x y:Nat)(rs:List (Nat×Nat))(hgx:((all[x]?).map (·.guard))=some none)(hgy:((all[y]?).map (·.guard))=some none){listed:Array Bool}{e:Env}{d:List Deferred}{w w1:World}(hr:Rest w0 w)(hr1:Rest w w1)
 (hy:Region.ready .any all.toArray (listed.setIfInBounds x true)=[y]) (hok:iZ G all rs ((listed.setIfInBounds x true).setIfInBounds y true)=true) (H:Jh P R all rs k all[x]? all[y]? e d w1.heap):
 opD P all.toArray x (fun a' w'=>(G x=true->R w1.heap w'.heap)/\Rest w1 w'/\lQ P all.toArray R G (fun a w'=>k .normal a.tmps.toList a.defers w'.heap/\Rest w0 w') (rs.length+1) (listed.setIfInBounds x true) a' w') ⟨e.toArray,d⟩ w1:=by
 cases hx:all[x]? with
 |none=>simp[hx]at hgx
 |some ox=>
  cases hyo:all[y]? with
  |none=>simp[hyo]at hgy
  |some oy=>
   simp only[hx,mJ,Option.some.injEq]at hgx;simp only[hyo,mJ,Option.some.injEq]at hgy;rw[hx,hyo]at H;unfold Jh at H;simp only at H;refine CX (Kx:=fun j F=>∀h2,R F h2->opW P oy.op oy.type j h2 (fun u g=>R h2 g/\bF P R all rs k (aU j oy.dst u) d g)) hx hgx H fun j J s D=> ?_
   intro L z m;rw[hy];refine⟨fun h=>by simp at h,fun q p=> ?_⟩;have p:q=y:=by simpa using p
   subst p;exact CX (Kx:=fun C g=>bF P R all rs k C d g) hyo hgy (D _ m) fun C I B E=>dO hS hsel rs _ _ d I (((hr.trans hr1).trans s).trans (z.trans B)) hok E
theorem jm (hS:Sta R){all:List Oper}{k:aj}{w0:World}(hsel:Region.noSelect all.toArray=true)(x y:Nat)(rs:List (Nat×Nat))(hgx:((all[x]?).map (·.guard))=some none)(hgy:((all[y]?).map (·.guard))=some none):∀(pre:List (Nat×Nat)) (listed:Array Bool) (e:Env) (d:List Deferred) (w:World),Rest w0 w->
 okF G all x y rs pre listed=true->jg P R all x y rs pre k e d w.heap->
 lQ P all.toArray R G (fun a w'=>k .normal a.tmps.toList a.defers w'.heap/\Rest w0 w') (rs.length+2+pre.length) listed ⟨e.toArray,d⟩ w
 |[],listed,e,d,w,hr,g,H=>by
  intro w1 Y hR1;simp only[okF,aX,decide_eq_true_eq,ic]at g;obtain⟨Z,z,h3,o1,o2⟩:=g;obtain⟨A,B⟩:=H _ hR1;rw[Z];refine⟨fun h=>by simp at h,fun q W=> ?_⟩;have W:q=x\/q=y:=by simpa using W
  rcases W with rfl|rfl
  .exact Bj hS hsel q y rs hgx hgy hr Y z o1 A
  .exact Bj hS hsel q x rs hgy hgx hr Y h3 o2 B
 |(i,0)::rest,listed,e,d,w,hr,g,H=>by
  simp only[okF,aX]at g;obtain⟨⟨⟨m,C⟩,X⟩,g⟩:=g;unfold jg at H;cases hi:all[i]? with
  |none=>simp[hi]at H
  |some o=>
   simp only[hi]at H;have M:all.toArray[i]? =some o:=by simpa using hi
   obtain⟨s,F⟩:∃s,s=blk all listed i all.length 0 []:=⟨_,rfl⟩;rw[<-F]at C X;have I:∀j∈s,listed.getD j true=false:=fun j E=>by
    have:=bP.1 C j E;simp only[aX,ic]at this;exact this.1.1
   have J:∀j∈s,j≠i/\∀p,all.toArray[j]? =some p->∃e∈p.after,Region.binds .any e=true/\(e.on=i\/e.on∈s):=fun j E=>by
    have:=bP.1 C j E;simp only[aX,bne_iff_ne,ne_eq]at this;refine⟨this.1.2,fun p T=> ?_⟩;have D:all[j]? =some p:=by simpa using T
    have z:=this.2;rw[D]at z;obtain⟨e,he,N⟩:=kX.1 z;simp only[aX,ek,beq_iff_eq,bR,decide_eq_true_eq]at N;exact⟨e,he,N.1,N.2⟩
   have L:∀j p,all.toArray[j]? =some p->j≠i->listed.getD j true=false->j∉s->o.apart all.toArray p=true/\G j=true:=by
    intro j p E Q U S;have O:j<all.length:=by have:=(eO.1 E).1;simpa using this
    have:=bP.1 X j (ny.2 O);have D:all[j]? =some p:=by simpa using E
    simp only[hi,D,ek,aX,beq_iff_eq,Q,false_or,U,kY,bR,decide_eq_true_eq,S]at this;exact⟨this.2,this.1⟩
   have u:i∈Region.ready .any all.toArray listed:=by simpa using m
   rcases dB H o rfl with⟨V,hA⟩|⟨V,hB⟩
   .have W:=tV hS hA;unfold iP at W;obtain⟨v,hv,hk⟩:=W;refine ja hS M (Region.noSelect_spec hsel) s J (rs.length+2+rest.length) listed _ w L I u (v:=v) ?_ ?_
    .refine .inl ⟨V,fun w' hr' hR'=> ?_⟩;have Z:=hv _ hR';refine⟨Z.1,?_⟩;have z:=Z.2 w' rfl;rw[dY,bW];unfold dQ at z;unfold fH;split at z
     .exact z
     .exact z
     .exact z
     .exact z
     .exact z.elim
    .rw[ay];exact jm hS hsel x y rs hgx hgy rest _ _ d w hr g hk
   .refine ja hS M (Region.noSelect_spec hsel) s J (rs.length+2+rest.length) listed _ w L I u (v:=undef) (.inr ⟨V,rfl⟩) ?_;rw[ay];exact jm hS hsel x y rs hgx hgy rest _ _ d w hr g hB
 |(i,3)::rest,listed,e,d,w,hr,g,H=>by
  simp only[okF,aX]at g;obtain⟨⟨⟨m,C⟩,X⟩,g⟩:=g;unfold jg at H;cases hi:all[i]? with
  |none=>simp[hi]at H
  |some o=>
   simp only[hi]at H;have M:all.toArray[i]? =some o:=by simpa using hi
   obtain⟨s,F⟩:∃s,s=blk all listed i all.length 0 []:=⟨_,rfl⟩;rw[<-F]at C X;have I:∀j∈s,listed.getD j true=false:=fun j E=>by
    have:=bP.1 C j E;simp only[aX,ic]at this;exact this.1.1
   have J:∀j∈s,j≠i/\∀p,all.toArray[j]? =some p->∃e∈p.after,Region.binds .any e=true/\(e.on=i\/e.on∈s):=fun j E=>by
    have:=bP.1 C j E;simp only[aX,bne_iff_ne,ne_eq]at this;refine⟨this.1.2,fun p T=> ?_⟩;have D:all[j]? =some p:=by simpa using T
    have z:=this.2;rw[D]at z;obtain⟨e,he,N⟩:=kX.1 z;simp only[aX,ek,beq_iff_eq,bR,decide_eq_true_eq]at N;exact⟨e,he,N.1,N.2⟩
   have L:∀j p,all.toArray[j]? =some p->j≠i->listed.getD j true=false->j∉s->o.apart all.toArray p=true:=by
    intro j p E Q U S;have O:j<all.length:=by have:=(eO.1 E).1;simpa using this
    have:=bP.1 X j (ny.2 O);have D:all[j]? =some p:=by simpa using E
    simp only[hi,D,ek,aX,beq_iff_eq,Q,false_or,U,kY,bR,decide_eq_true_eq,S]at this;exact this
   have u:i∈Region.ready .any all.toArray listed:=by simpa using m
   rcases dB H o rfl with⟨V,hA⟩|⟨V,hB⟩
   .obtain⟨hd,v,hk,hv⟩:=oD (ty:=o.type) hA;refine ig hS M (Region.noSelect_spec hsel) s J (rs.length+2+rest.length) listed _ w L I u (v:=v) ?_ ?_
    .refine .inl ⟨V,fun w' hr'=>⟨hd,?_⟩⟩;rw[dY,bW,hv w'];exact⟨⟨rfl,rfl⟩,Rest.refl _⟩
    .rw[ay];exact jm hS hsel x y rs hgx hgy rest _ _ d w hr g hk
   .refine ig hS M (Region.noSelect_spec hsel) s J (rs.length+2+rest.length) listed _ w L I u (v:=undef) (.inr ⟨V,rfl⟩) ?_;rw[ay];exact jm hS hsel x y rs hgx hgy rest _ _ d w hr g hB
 |(i,1)::rest,listed,e,d,w,hr,g,H=>by simp[okF]at g
 |(i,2)::rest,listed,e,d,w,hr,g,H=>by simp[okF]at g
 |(i,c+4)::rest,listed,e,d,w,hr,g,H=>by simp[okF]at g
theorem zBV (hm:P.follows .mixedOrders=true)(hS:Sta R){id:Nat}{all:List Oper}{k:aj}{e:Env}{d:List Deferred}{h:Heap}(x y:Nat)(pre rs:List (Nat×Nat))
 (hsel:Region.noSelect all.toArray=true) (hgx:((all[x]?).map (·.guard))=some none) (hgy:((all[y]?).map (·.guard))=some none) (hlen:rs.length+2+pre.length=all.length) (hok:okF (fun j=>j==x||j==y||EA pre j||EA rs j) all x y rs pre (Array.replicate all.length false)=true)
 (H:jg P R all x y rs pre k e d h):WP l P (.region id all.toArray true) k e d h:=by
 unfold WP;intro w s;subst s;refine wpIn_region_any hm ?_;have m:=jm (w0:=w) (G:=fun j=>j==x||j==y||EA pre j||EA rs j) hS hsel x y rs hgx hgy pre _ e d {w with drawn:=w.drawn+1} ⟨rfl,rfl,rfl⟩ hok H;rw[hlen]at m;have p:=jc (l:=l) (Q':=fun x a g=>k x a.tmps.toList a.defers g.heap/\Rest w g) hS (fun a g q=>q) _ _ _ _ m;simpa using p
variable {all:List Oper}{rest rs:List (Nat×Nat)}{k:aj}{e:Env}{d:List Deferred}{h:Heap}{dst:Option Tmp}{op:Op}{ty:TypeId}{pos:String}{after:Array Edge}{i x y:Nat}
def Le (P:Program)(R:Heap->Heap->Prop)(all:List Oper)(x y:Nat)(rs rest:List (Nat×Nat))(k:aj)(dst:Option Tmp)(e:Env)(d:List Deferred):Value->Heap->Prop:=fun v h=>jg P R all x y rs rest k (aU e dst v) d h
theorem zB8 {v:Value}:Le P R all x y rs rest k dst e d v h=jg P R all x y rs rest k (aU e dst v) d h:=eqi rfl
def stF (P:Program)(R:Heap->Heap->Prop)(o:Option Oper)(all:List Oper)(x y:Nat)(rs rest:List (Nat×Nat))(k:aj)(e:Env)(d:List Deferred)(h:Heap):Prop:=
 match o with
 |some o=>ax o.guard all e (fun e=>dK P R o.op o.type e h (fun v h'=>Le P R all x y rs rest k o.dst e d v h')) (fun e=>jg P R all x y rs rest k (aU e o.dst undef) d h)
 |none=>False
theorem Xi:jg P R all x y rs ((i,0)::rest) k e d h=stF P R all[i]? all x y rs rest k e d h:=by simp only[jg,stF,Le]
theorem Zo:stF P R (some ⟨dst,op,ty,pos,after,none⟩) all x y rs rest k e d h=dK P R op ty e h (Le P R all x y rs rest k dst e d):=by simp only[stF,ax]
theorem zAL (H:∀h',R h h'->Jh P R all rs k all[x]? all[y]? e d h'/\Jh P R all rs k all[y]? all[x]? e d h'):jg P R all x y rs [] k e d h:=H
theorem zBR {b:Oper}:Jh P R all rs k (some ⟨dst,op,ty,pos,after,none⟩) (some b) e d h=opW P op ty e h (fun v h1=>R h h1/\∀h2,R h1 h2->opW P b.op b.type (aU e dst v) h2 (fun u h3=>R h2 h3/\bF P R all rs k (aU (aU e dst v) b.dst u) d h3)):=by simp only[Jh]
end fork
section vals
variable {P:Program}{h:Heap}{er:Env}{ty:TypeId}{h0:Nat}
theorem YB {t t2 el e2 ct:TypeId}{s:Nat}(hu:P.underlying t=some (.slice el))(hu2:P.underlying t2=some (.slice e2))(hi:(P.info? el).isSome=true)(hsz:szT P el=s)
 {x y:Operand} {b:Option Addr} {g off n c m c2:Nat} {cur ys:List Value} {K:Value->Heap->Prop} (hx:ev er x= .slice (some ⟨g,off,none⟩) n c) (hy:ev er y= .slice b m c2) (hb:h[g]? =some (.cells cur.toArray ct (0,0))) (hl:off+n*s<=cur.length) (I:Row h b ys) (hyl:ys.length=m*s) (h1:∀u∈ys.take (n*s),u.oneCell'=true)
 (H:∀h',h'[g]? =some (.cells (splice cur off (ys.take (n*s))).toArray ct (0,0))->Upd h h' g->K (.int .i64 (min m n:Nat)) h'):aI P (.call ⟨.builtin .copy,#[x,y],#[t,t2]⟩) ty er h K:=by
 unfold aI;refine aF rfl fun w F=> ?_
 subst F;obtain⟨i,hi⟩:=cK.1 hi;have hsz:i.size=s:=by simpa[szT,hi]using hsz
 have z:=qJ (P:=P) (w:=w) (c:=c2) (k:=min m n) I hyl (Nat.min_le_left _ _);have E:ys.take (min m n*s)=ys.take (n*s):=by
  rcases Nat.le_total m n with j|j
  .have:m*s<=n*s:=kV _ j;rw[mI j,aN (by omega),aN (by omega)]
  .rw[Nat.min_eq_right j]
 rw[E]at z;have B:(ys.take (n*s)).length<=n*s:=by rw[bL];omega
 have q:=run_storeCells_at P g off ct (ys.take (n*s)) 0 cur.toArray w hb (by simp only[lw];omega) (fun x hx=>h1 x hx);simp only[fo]at q;have C:cur.toArray.toList.take off++ys.take (n*s)++cur.toArray.toList.drop (off+(ys.take (n*s)).length)=splice cur off (ys.take (n*s)):=by simp[splice]
 rw[C]at q;have h1:(Builtin.copy_ #[t,t2] ty #[.slice (some ⟨g,off,none⟩) n c,.slice b m c2]).run P w= .ok (.int .i64 (min m n:Nat)) (w.setRow g (splice cur off (ys.take (n*s))).toArray):=by
  have D:Nat.min m n=min m n:=rfl;simp only[Builtin.copy_,fw,run_underlying hu,sizeOf,typeInfo];simp[run_underlying hu,hi,hsz,Builtin.lenOf,D,z,q,goInt]
 have p: #[x,y].map (ev er)= #[.slice (some ⟨g,off,none⟩) n c,.slice b m c2]:=by simp[hx,hy]
 have:(execOp (ev er) {dst:=none,op:= .call ⟨.builtin .copy,#[x,y],#[t,t2]⟩,type:=ty,pos:= "",after:= #[],guard:=none}).run P w= .ok (.value (.int .i64 (min m n:Nat))) (w.setRow g (splice cur off (ys.take (n*s))).toArray):=by
  simp only[execOp,resolve,invoke,builtin,fw,gL,dL,p,h1]
 rw[this];exact⟨H _ (setRow_heap hb _).1 (setRow_heap hb _).2,rfl,rfl,rfl⟩
theorem Un {t tn el:TypeId}{z:Value}{s:Nat}(hu:P.underlying t=some (.slice el))(hun:P.underlying tn=some (.int .i64))(hi:(P.info? el).isSome=true)(hsz:szT P el=s)(hz:dJ P el=some z)(hzs:z.cells.size=s)(hs:0<s)
 {x y:Operand} {a:Option Addr} {len cap k:Nat} {olds:List Value} {K:Value->Heap->Prop} (hx:ev er x= .slice a len cap) (hy:ev er y= .int .i64 (k:Nat)) (I:Row h a olds) (hol:olds.length=len*s) (hk:0<k) (hg:cap<len+k) (hb:len+k<=1000000) (hby:(len+k)*iA P el<=1000000) (h0h:h0<=h.size)
 (H:∀cap' h' zs,zs.length=k*s->iV h0 h' el s (some ⟨h.size,0,none⟩) (len+k) cap' (olds++zs)->Ext h h'->K (.slice (some ⟨h.size,0,none⟩) (len+k) cap') h'):aI P (.call ⟨.builtin .append,#[x,y],#[t,tn]⟩) ty er h K:=by
 unfold aI;refine aF rfl fun w M=> ?_
 subst M;obtain⟨i,hi⟩:=cK.1 hi;have hsz:i.size=s:=by simpa[szT,hi]using hsz
 have hz:i.zero=some z:=by simpa[dJ,hi]using hz
 have hby:(len+k)*i.bytes<=1000000:=by simpa[iA,hi]using hby
 have L:k*i.bytes<=(len+k)*i.bytes:=kV _ (by omega);have J:(Builtin.firstCells i.size len (.slice a len cap)).run P w.drew= .ok olds.toArray w.drew:=by
  have:=qJ (P:=P) (w:=w.drew) (c:=cap) (k:=len) (s:=s) (b:=a) (m:=len) (vs:=olds) I hol (kz _);rw[aN (by omega)]at this;rw[hsz];exact this
 have C:=Lib.run_append_grow_zeros (P:=P) w t tn ty el i z .i64 .i64 hu hun hi hz a len cap olds J k hk (by omega) hg (by omega) (by omega) (growslice_fits (bytes:=i.bytes) hg (by omega));have q:=grownCap_ge w (len+k) cap el;have j: #[x,y].map (ev er)= #[.slice a len cap,.int .i64 (k:Nat)]:=by simp[hx,hy]
 have u:∀v p,(Builtin.append_ #[t,tn] ty #[.slice a len cap,.int .i64 (k:Nat)]).run P w= .ok v p->Rest w p->K v p.heap->
  dQ P w K ((execOp (ev er) {dst:=none,op:= .call ⟨.builtin .append,#[x,y],#[t,tn]⟩,type:=ty,pos:= "",after:= #[],guard:=none}).run P w):=by
  intro v p D E F;have:(execOp (ev er) {dst:=none,op:= .call ⟨.builtin .append,#[x,y],#[t,tn]⟩,type:=ty,pos:= "",after:= #[],guard:=none}).run P w= .ok (.value v) p:=by
   simp only[execOp,resolve,invoke,builtin,fw,gL,dL,j,D]
  rw[this];exact⟨F,E⟩
 have g:(Builtin.zeroCells z.cells k).size=k*s:=by rw[iF,hzs]
 refine u _ _ C ⟨rfl,rfl,rfl⟩ (H (grownCap w (len+k) cap el) _ (Builtin.zeroCells z.cells k).toList (by simpa using g) ⟨by rw[bI,hol,bK,g,ko],.inr ⟨w.heap.size,_,rfl,h0h,jD,?_,q,?_⟩⟩ ((Ext.refl _).push _))
 .have B:(len+k)*s+(grownCap w (len+k) cap el-(len+k))*s=grownCap w (len+k) cap el*s:=by rw[<-ko];congr 1;omega
  simp only[Array.size_append,lw,iF,hzs,hol,ko]at B ⊢;omega
 .simp only[Array.toList_append,eF];rw[bi (by simp[hol,g,ko]),aN (by simp[hol,g,ko])]
end vals
end Go.Eng
namespace Go.Proofs.YtejmkibjpaoahaaGreatDoor
open Go Go.Proofs Go.Eng Go.Run Tab
section
variable {A:List Value}{K:Value->Eng.Heap->Prop}{a:Option Addr}{c:Nat}{e:Env}{h:Eng.Heap}{n:Nat}{ty:TypeId}{vs:List Value}{x y:Operand}
set_option maxHeartbeats 2000000
def zCN:=(aF (aF @zGn @zDx) (aF @zEl @Tryz.underlying33))
def zDG:=(aF (aF @zGn @zDx) (aF @zEl (aF @zEj @Tryz.underlying33)))
theorem zJD {ats:Array TypeId}{ga oa gb ob la ca lb cb:Nat}{xs ys:Array Value}{tA tB:TypeId}(hx:ev e x= .slice (some ⟨ga,oa,none⟩) la ca)(hy:ev e y= .slice (some ⟨gb,ob,none⟩) lb cb)(ha:h[ga]? =some (.cells xs tA (0,0)))(hb:h[gb]? =some (.cells ys tB (0,0)))(hne:ga≠gb)(hz:ys.size≠0)(H:K (.bool false) h):aI aD (.call ⟨.value (.func 105),#[x,y],ats⟩) ty e h K:=
 aK rfl (.bool false) H fun w g=>by
  have p:ev e (Operand.func 105)=Value.func (.func 105) #[] #[]:=rfl;simp only[execOp,resolve,p,Deferred.ofValue,invoke,fw,gL,dL];have q:(callFunc 105 #[.slice (some ⟨ga,oa,none⟩) la ca,.slice (some ⟨gb,ob,none⟩) lb cb]).run aD w= .ok (.value (.bool false)) w:=by
   rw[run_callFunc_extern (fn:=Tryz.f105) (by kernel_rfl) (by kernel_rfl) (by kernel_rfl) (by kernel_rfl) (e:=Extern.SlicesOverlaps.overlaps #[33,33] #[4]) (by kernel_rfl)];obtain⟨j,s⟩:=cK.1 zDx;have m:∀w,(Go.sizeOf 39).run aD w= .ok j.size w:=fun w=>by simp[sizeOf,typeInfo,s]
   rw[Lib.run_overlaps_apart w 33 4 39 aW j.size m ⟨ga,oa,none⟩ ⟨gb,ob,none⟩ la ca lb cb hne tA tB xs.size ys.size (by unfold World.shape?;rw[g,ha]) (by unfold World.shape?;rw[g,hb]) hz (by unfold World.frozen?;rw[g,ha];simp) (by unfold World.frozen?;rw[g,ha];simp)];rfl
  simpa[hx,hy]using q
theorem zDy {h':Eng.Heap}{b:Nat}(H:Row h a vs)(u:Upd h h' b)(hne:∀p,a=some p->p.block≠b):Row h' a vs:=by
 rcases H with H|⟨g,m,j,s,z,q,B,C,D⟩
 .exact .inl H
 .exact .inr ⟨g,m,j,s,z,q,u.get B (hne _ q),C,D⟩
theorem zL5 {er:Env}{m0:Nat}{b:Option Addr}{len cap m:Nat}{xs ys:List En}(hx:ev er x= .slice a len cap)(hy:ev er y= .slice b m c)(O:iV m0 h 39 4 a len cap (zDA xs))(h0h:m0<=h.size)(I:Row h b (zDA ys))(hm:ys.length=m)(hb:len+m<=1000)(H:∀a' cap' h',iV m0 h' 39 4 a' (len+m) cap' (zDA (xs++ys))->App h h' a a'->K (.slice a' (len+m) cap') h'):aI aD (.call ⟨.builtin .append,#[x,y],#[33,33]⟩) ty er h K:=
 WZ aW aW zDx zEl zEj (by rfl) hx hy O h0h I (by rw[zDB,hm]) (fun u g=>by
  simp only[zDA,lX,enV]at g;obtain⟨e,_,g⟩:=g;simp at g;rcases g with rfl|rfl|rfl|rfl<;>rfl) (by omega) (by rw[zGn];omega) (fun a' cap' h' j A=>H a' cap' h' (by rw[zEr];exact j) A)
theorem CQ {P:Program}{u yt el:TypeId}(hu:P.underlying u=some (.slice el))(hx:ev e x= .slice a n c)(hy:ev e y= .slice none 0 0)(H:K (.bool a.isNone) h):aI P (.binOp .eql u x y yt) ty e h K:=
 aK rfl _ H fun w _=>by simp[execOp,hx,hy,eqGuard,Go.binOp,Tv hu]
theorem zJZ {op:BinOp}{b:Option Addr}{n2 c2:Nat}{F:Prop}:dF op (.slice a n c) (.slice b n2 c2) h K F=F:=by unfold dF;rfl
theorem zG2 (a:Option Addr)(n c:Nat)(es:List En)(h:Eng.Heap)(hr:Row h a (zDA es))(hn:n=es.length)(hl:n<=900):
 ak aD 44 #[.slice a n c] h (fun v h'=>∃a' c',v= .slice a' n c'/\iV h.size h' 39 4 a' n c' (zDA es)/\Ext h h'):=by
 (refine Rm Tryz.func44 rfl zPx ?_;simp only[Tryz.ntmps44,Tryz.results44,coreS,U1,splice,aC,af,seval,zDG])
 rw[zJZ];refine CQ aW rfl rfl ?_;cases a with
 |none=>
  have m:es=[]:=by
   rcases hr with hr|⟨_,_,_,_,_,j,_⟩
   .have:=congrArg List.length hr;rw[zDB]at this;exact List.eq_nil_of_length_eq_zero (by simp at this;omega)
   .cases j
  subst m;subst hn;simp only[pV,coreS,aC,af,seval,zDG];exact⟨none,0,rfl,iV.nil _ _ _ _,Ext.refl _⟩
 |some a=>
  simp only[pV,coreS,aC,af,Nat.reduceAdd,Nat.reduceSub,Nat.reduceMul,Nat.reduceLeDiff,Int.reduceEq,Nat.reduceEqDiff,zDG];refine⟨by omega,?_⟩;have g:iV h.size (h.push (.cells #[] 39)) 39 4 (some ⟨h.size,0,none⟩) 0 0 (zDA []):=⟨rfl,.inr ⟨h.size,#[],rfl,kz _,jD,by simp,kz _,rfl⟩⟩;refine zL5 rfl rfl g (by simp) (hr.push _) hn.symm (by omega) fun a' c' h' O A=> ?_
  simp only[coreS,aC,af,seval,zDG];refine⟨a',c',rfl,by rw[Nat.zero_add]at O;exact O,A.extV g ((Ext.refl h).push _) (kz _)⟩
theorem zFK {c B C:List Value}{off:Nat}(hc:c=A++(B++C))(ho:off=A.length)(hb:B.length=vs.length):splice c off vs=A++(vs++C):=by
 subst hc ho;unfold splice;rw[nX,<-gY,dM,<-hb,dM,bn]
theorem zNX {D zs tl ev:List Value}{i:Nat}(hA:A.length=i*4)(hD:D.length=(n-i)*4)(hz:zs.length=(n+1-i)*4)(hi:i<=n)(he:ev.length=4):
 splice (splice (A++(zs++tl)) (i*4) ev) ((i+1)*4) D=A++(ev++(D++tl)):=by
 have g:splice (A++(zs++tl)) (i*4) ev=A++(ev++(zs.drop 4++tl)):=
  zFK (A:=A) (B:=zs.take 4) (C:=zs.drop 4++tl) (by rw[<-bn (zs.take 4),bv]) hA.symm (by rw[bL];omega)
 rw[g];have j:=zFK (c:=A++(ev++(zs.drop 4++tl))) (A:=A++ev) (B:=zs.drop 4) (C:=tl) (vs:=D) (off:=(i+1)*4) (by simp) (by simp;omega) (by rw[bQ];omega);rw[j];simp
theorem zMM {D tl ev:List Value}{i:Nat}(hA:A.length=i*4)(hD:D.length=(n-i)*4)(ht:4<=tl.length)(hi:i<=n)(he:ev.length=4):
 splice (splice (A++(D++tl)) ((i+1)*4) D) (i*4) ev=A++(ev++(D++tl.drop 4)):=by
 have j:splice (A++(D++tl)) ((i+1)*4) D=A++((D++tl).take 4++(D++tl.drop 4)):=by
  have p:(D++tl)=(D++tl).take 4++(((D++tl).drop 4).take D.length++tl.drop 4):=by
   have g:tl.drop 4=((D++tl).drop 4).drop D.length:=by
    rw[gY,Nat.add_comm,<-gY,dM]
   rw[g,bv,bv]
  have m:=zFK (c:=A++(D++tl)) (A:=A++(D++tl).take 4) (B:=((D++tl).drop 4).take D.length) (C:=tl.drop 4) (vs:=D) (off:=(i+1)*4) (by rw[bn,<-p]) (by simp[hA];omega) (by simp;omega);rw[m];simp
 rw[j];exact zFK rfl hA.symm (by simp;omega)
theorem zLa {u:Option TypeDesc}{F:Prop}:lZ .cap vs u h K F=F:=by
 unfold lZ;split<;>first|rfl|(rename_i g;cases g)|simp_all
theorem zRB {t el:TypeId}(hu:Tryz.prog.underlying t=some (.slice el))(hx:ev e x= .slice a n c)(H:K (.int .i64 c) h):aI aD (.call ⟨.builtin .cap,#[x],#[t]⟩) ty e h K:=
 aK rfl _ H fun w _=>by simp[execOp,resolve,invoke,builtin,hx,Builtin.cap_,goInt,run_underlying hu]
theorem zFd (m0:Nat)(a:Option Addr)(n c i b:Nat)(es:List En)(e:En)(h:Eng.Heap)(O:iV m0 h 39 4 a n c (zDA es))(h0h:m0<=h.size)(hn:n=es.length)(hi:i<=n)(hl:n<=900)
 (hb:h[b]? =some (.cells #[.int .i64 e.d,.int .i64 e.f,.int .i64 e.t,.int .i64 e.a] 39)) (hne:∀p,a=some p->p.block≠b):
 ak aD 43 #[.slice a n c,.int .i64 i,.slice (some ⟨b,0,none⟩) 1 1] h (fun v h'=>∃a' c',v= .slice a' (n+1) c'/\Row h' a' (zDA (es.take i++e::es.drop i))/\(∀p,a'=some p->m0<=p.block)/\∀h1,Ext h1 h->h1.size<=m0->Ext h1 h'):=by
 have hcap:=O.cap;have Ib:Row h (some ⟨b,0,none⟩) (zDA [e]):=Row.block (by simpa[zDA,enV]using hb);refine kJ Tryz.func43 rfl zPw ?_;simp only[Tryz.ntmps43,Tryz.results43];refine zBy (dI _ _ _ _ _ ?_);simp only[coreS,aC,af,seval,zCN];refine zBy (dI _ _ _ _ _ ?_);simp only[coreS,aC,af,seval,zCN];refine⟨by omega,by omega,by omega,by omega,?_⟩;refine zBy (dI _ _ _ _ _ ?_);simp only[coreS,aC,af,Nat.reduceAdd,Nat.reduceSub,Nat.reduceMul,Nat.reduceLeDiff,Int.reduceEq,Nat.reduceEqDiff,zCN];refine zBy (dI _ _ _ _ _ ?_);simp only[coreS,aC,af,Nat.reduceAdd,Nat.reduceSub,Nat.reduceMul,Nat.reduceLeDiff,Int.reduceEq,Nat.reduceEqDiff,zCN];refine⟨fun h1=>absurd h1 (by omega),fun _=> ?_⟩;refine zBy (dI _ _ _ _ _ ?_);simp only[coreS,aC,af,Nat.reduceAdd,Nat.reduceSub,Nat.reduceMul,Nat.reduceLeDiff,Int.reduceEq,Nat.reduceEqDiff,zCN];refine zBy (dI _ _ _ _ _ ?_);by_cases hin:i=n
 .have C:(i:Int)=(n:Int):=by omega
  simp only[C,decide_true,coreS,aC,af,Nat.reduceAdd,Nat.reduceSub,Nat.reduceMul,Nat.reduceLeDiff,Int.reduceEq,Nat.reduceEqDiff,zCN];refine zL5 rfl rfl O h0h Ib rfl (by omega) fun a' c' h' O' A=> ?_
  simp only[coreS,aC,af,Nat.reduceAdd,Nat.reduceSub,Nat.reduceMul,Nat.reduceLeDiff,Int.reduceEq,Nat.reduceEqDiff,zCN];refine⟨a',c',rfl,?_,fun p T=>(O'.lt T).2,fun h1 x hm=>A.extV O x hm⟩;have:es.take i++e::es.drop i=es++[e]:=by rw[aN (by omega),List.drop_of_length_le (by omega)]
  rw[this];exact O'.row
 have C:¬(i:Int)=(n:Int):=by omega
 simp only[C,decide_false,coreS,aC,af,Nat.reduceAdd,Nat.reduceSub,Nat.reduceMul,Nat.reduceLeDiff,Int.reduceEq,Nat.reduceEqDiff,zCN];refine zBy (dI _ _ _ _ _ ?_);simp only[coreS,aC,af,Nat.reduceAdd,Nat.reduceSub,Nat.reduceMul,Nat.reduceLeDiff,Int.reduceEq,Nat.reduceEqDiff,zCN];rcases O.ok with⟨rfl,h1,h2⟩|⟨g,cur,rfl,q1,W,q3,q4,q5⟩
 .omega
 have Q:g≠b:=hne _ rfl;have H:cur.toList=zDA (es.take i)++(zDA (es.drop i)++cur.toList.drop (n*4)):=by
  have e1:zDA (es.take i)++zDA (es.drop i)=cur.toList.take (n*4):=by rw[<-zEr,bv,q5]
  rw[<-bn,e1,bv]
 have I:(zDA (es.take i)).length=i*4:=by rw[zDB,bL];omega
 have D:(zDA (es.drop i)).length=(n-i)*4:=by rw[zDB,bQ];omega
 have E:∀es:List En,∀u∈zDA es,u.oneCell'=true:=fun es u q=>by
  simp only[zDA,lX,enV]at q;obtain⟨e,_,q⟩:=q;simp at q;rcases q with rfl|rfl|rfl|rfl<;>rfl
 have z:zDA (es.take i)++(enV e++zDA (es.drop i))=zDA (es.take i++e::es.drop i):=by rw[zEr,zFF]
 have lF:(zDA (es.take i++e::es.drop i)).length=(n+1)*4:=by rw[<-z,bI,bI,I,D];simp[enV];omega
 have M:(n:Int)+((1:Nat):Int)=((n+1:Nat):Int):=by omega
 have e2n:((n+1:Nat):Int)-(i:Int)=((n+1-i:Nat):Int):=by omega
 have F:(i:Int)+((1:Nat):Int)=((i+1:Nat):Int):=by omega
 refine⟨by rw[zBS];omega,?_⟩;rw[zLa];refine zRB aW rfl ?_;simp only[M,coreS,aC,af,Nat.reduceAdd,Nat.reduceSub,Nat.reduceMul,Nat.reduceLeDiff,Int.reduceEq,Nat.reduceEqDiff,zCN];by_cases hroom:n+1<=c
 .refine⟨fun h1=>absurd h1 (by omega),fun _=> ?_⟩;refine zBy (dI _ _ _ _ _ ?_);simp only[M,coreS,aC,af,Nat.reduceAdd,Nat.reduceSub,Nat.reduceMul,Nat.reduceLeDiff,Int.reduceEq,Nat.reduceEqDiff,zCN];have J:¬((c:Int)=(i:Int)):=by omega
  have t3:(((n+1:Nat):Int)-((0:Nat):Int)).toNat=n+1:=by omega
  have t2:((c:Int)-((0:Nat):Int)).toNat=c:=by omega
  simp only[J,t3,t2,ite_self,if_false];refine⟨by rw[zBS];omega,by omega,by omega,by omega,by omega,?_⟩;refine zBy (zBy (Ym 6 ?_));simp only[Ty,F,coreS,aC,af,Nat.reduceAdd,Nat.reduceSub,Nat.reduceMul,Nat.reduceLeDiff,Int.reduceEq,Nat.reduceEqDiff,zCN];have f4:¬((c:Int)=((i+1:Nat):Int)):=by omega
  have t5:(((n+1:Nat):Int)-((i+1:Nat):Int)).toNat=n-i:=by omega
  have Y:(((n+1:Nat):Int)-(i:Int)).toNat=n+1-i:=by omega
  simp only[f4,if_false];refine⟨by rw[zBS];omega,by omega,by omega,by omega,by omega,?_⟩;refine zJD rfl rfl hb W (Ne.symm Q) (by omega) ?_;simp only[coreS,aC,af,Nat.reduceAdd,Nat.reduceSub,Nat.reduceMul,Nat.reduceLeDiff,Int.reduceEq,Nat.reduceEqDiff,zCN];refine zB4 (b:=true) rfl ?_;simp only[if_true];refine dI _ _ _ _ _ ?_;simp only[coreS,aC,af,Nat.reduceAdd,Nat.reduceSub,Nat.reduceMul,Nat.reduceLeDiff,Int.reduceEq,Nat.reduceEqDiff,zCN];refine zB9 (by kernel_rfl) zBp [(0,0),(1,0),(2,0),(3,0),(4,0),(5,0),(6,0),(7,0),(8,1)] (by kernel_rfl) rfl (by kernel_rfl) ?_;simp only[F,f4,t5,J,Y,if_false,coreS,aC,af,Nat.reduceAdd,Nat.reduceSub,Nat.reduceMul,Nat.reduceLeDiff,Int.reduceEq,Nat.reduceEqDiff,drawS,zCN];refine⟨by rw[zBS];omega,by omega,by omega,by omega,by omega,by omega,by omega,by omega,by omega,?_⟩;have j:Row h (some ⟨g,i*4,none⟩) (zDA (es.drop i)++(cur.toList.drop (n*4)).take 4):=by
   refine .inr ⟨g,i*4,cur,39,(0,0),rfl,W,?_,?_⟩
   .rw[bI,D,bL,bQ,bK];omega
   .conv=>lhs;rw[H,<-I,dM]
    rw[List.take_append,aN (by simp)];congr 1;simp[I,D];omega
  refine YB (s:=4) (cur:=cur.toList) aW aW zDx zEl rfl rfl (by simpa using W) (by rw[bK];omega) j (by rw[bI,D,bL,bQ,bK];omega) ?_ fun h3 N X=> ?_
  .intro u q;rw[bi (by omega),aN (by omega)]at q;exact E _ u q
  rw[bi (by omega),aN (by omega)]at N;simp only[Ye,J,Y,if_false,coreS,aC,af,seval,drawS,zCN];refine⟨by omega,by omega,by omega,by omega,?_⟩;have hI3:Row h3 (some ⟨b,0,none⟩) (zDA [e]):=Row.block (by simpa[zDA,enV]using X.get hb (Ne.symm Q));refine YB (s:=4) (off:=i*4) (n:=n+1-i) aW aW zDx zEl rfl rfl N (by simp[splice,D];omega) hI3 (by rfl) (fun u q=>E [e] u (bS q)) fun h4 L u4=> ?_
  have e5:(zDA [e]).take ((n+1-i)*4)=enV e:=by
   rw[aN (by rw[zDB];simp;omega)];simp[zDA]
  rw[e5,H,zMM I D (by rw[bQ,bK];omega) hi (by rfl),<-bn (enV e),<-bn,z]at L;simp only[coreS,aC,af,seval,zCN];refine⟨_,_,rfl,?_,fun p T=>(by cases T;exact q1),fun h1 x hm=>u4.ext (X.ext x (by omega)) (by omega)⟩;have:=Row.block L;have:=this.take ((n+1)*4);rwa[bi (by omega),aN (by omega)]at this
 .refine⟨fun _=> ?_,fun h1=>absurd h1 (by omega)⟩;simp only[e2n];refine⟨by omega,by omega,by omega,by omega,by rw[zBS];omega,by rw[zBS];omega,?_⟩;have t1:((i:Int)-((0:Nat):Int)).toNat=i:=by omega
  have t2:((c:Int)-((0:Nat):Int)).toNat=c:=by omega
  simp only[t1,t2,ite_self];have U:Row h (some ⟨g,0,none⟩) (zDA (es.take i)):=by
   have:=O.row.take (i*4);rwa[zFu]at this
  refine Un (h0:=m0) (s:=4) (len:=i) (cap:=c) (k:=n+1-i) aW Tryz.underlying3 zDx zEl zEj rfl (by omega) rfl rfl U I (by omega) (by omega) (by omega) (by rw[zGn];omega) h0h fun c2 h2 zs hz Z x2=> ?_
  have S:i+(n+1-i)=n+1:=by omega
  rw[S]at Z ⊢;simp only[coreS,aC,af,Nat.reduceAdd,Nat.reduceSub,Nat.reduceMul,Nat.reduceLeDiff,Int.reduceEq,Nat.reduceEqDiff,zCN];have c2n:=Z.cap;rcases Z.ok with⟨hno,_⟩|⟨B,m,hB,m1,m2,m3,m4,m5⟩
  .cases hno
  cases hB;have hgB:g≠h.size:=by have:=bA W;omega
  have f1:¬((c2:Int)=(i:Int)):=by omega
  have f2:¬((c2:Int)=((i+1:Nat):Int)):=by omega
  have J:¬((c:Int)=(i:Int)):=by omega
  have Y:(((n+1:Nat):Int)-(i:Int)).toNat=n+1-i:=by omega
  have t5:(((n+1:Nat):Int)-((i+1:Nat):Int)).toNat=n-i:=by omega
  have t6:((n:Int)-(i:Int)).toNat=n-i:=by omega
  simp only[f1,J,Y,t6,if_false];refine⟨by omega,by omega,by omega,by omega,?_⟩;have V:m.toList=zDA (es.take i)++(zs++m.toList.drop ((n+1)*4)):=by
   rw[<-bn,<-m5,bv]
  have hl2:(n+1)*4<=m.toList.length:=by rw[bK];omega
  refine YB (s:=4) (cur:=m.toList) aW aW zDx zEl rfl rfl (by simpa using m2) (by omega) (Ib.ext x2) (by rfl) (fun u q=>E [e] u (bS q)) fun h3 N X=> ?_
  have e5:(zDA [e]).take ((n+1-i)*4)=enV e:=by
   rw[aN (by rw[zDB];simp;omega)];simp[zDA]
  rw[e5]at N;simp only[coreS,aC,af,Nat.reduceAdd,Nat.reduceSub,Nat.reduceMul,Nat.reduceLeDiff,Int.reduceEq,Nat.reduceEqDiff,zCN];refine zB9 (by kernel_rfl) zBp [(0,0),(1,0),(2,0),(3,0),(4,0),(5,0),(6,0),(7,0),(8,1)] (by kernel_rfl) rfl (by kernel_rfl) ?_;simp only[F,f2,t5,J,t6,if_false,coreS,aC,af,Nat.reduceAdd,Nat.reduceSub,Nat.reduceMul,Nat.reduceLeDiff,Int.reduceEq,Nat.reduceEqDiff,drawS,zCN];refine⟨by rw[zBS];omega,by omega,by omega,by omega,by omega,by omega,by omega,by omega,by omega,?_⟩;have j:Row h3 (some ⟨g,i*4,none⟩) (zDA (es.drop i)):=by
   refine .inr ⟨g,i*4,cur,39,(0,0),rfl,X.get (x2.get W) hgB,?_,?_⟩
   .rw[D];omega
   .rw[H,<-I,dM,nX]
  refine YB (s:=4) aW aW zDx zEl rfl rfl N (by simp[splice,enV];omega) j D (fun u q=>E _ u (bS q)) fun h4 L u4=> ?_
  rw[aN (by omega)]at L;simp only[Ye,coreS,aC,af,seval,drawS,zCN];rw[V,zNX I D hz hi (by rfl),<-bn (enV e),<-bn,z]at L;refine⟨_,_,rfl,?_,fun p T=>(by cases T;exact h0h),fun h1 x hm=>u4.ext (X.ext (x.trans x2) (by have:=x.size;omega)) (by have:=x.size;omega)⟩;have:=Row.block L;have:=this.take ((n+1)*4);rwa[bi (by omega),aN (by omega)]at this
end
end Go.Proofs.YtejmkibjpaoahaaGreatDoor
namespace Go.Proofs.YtejmkibjpaoahaaGreatDoor
open Go Go.Proofs Go.Eng Tab
theorem zDw {acc cl:Int}{es:List En}(H:chk acc cl es=0):(2<=acc/\acc<=8)/\es.length<=20/\(0<=cl/\cl<=30)/\(∀e∈es,okE acc e)/\zEX es/\∀e∈es,e.f≠e.t:=by
 unfold chk at H;split at H
 .omega
 split at H
 .omega
 split at H
 .omega
 rename_i m g j;rw[not_or]at m g j;refine⟨bJ.1 m.1,by omega,bJ.1 g.1,bJ.1 g.2,bJ.1 j.1,fun e p q=>j.2 ⟨e,p,q⟩⟩
theorem zEz {acc cl:Int}{es:List En}{days:List Int}(H:opn acc cl es days=0):chk acc cl es=0/\inB 0 30 days=true:=by
 unfold opn at H;split at H
 .rename_i h;exact absurd H h
 split at H
 .rename_i g j;exact⟨bJ.1 g,j⟩
 .omega
theorem zKe {a:Option Addr}:lg a 0=a:=by cases a<;>simp[lg,Cm]
section
variable {day:Int}{e:En}{es:List En}{f i n t:Nat}{xs:List Int}
def amt (day i:Int)(e:En):Int:=if e.d<=day then(if e.t=i then e.a else 0)-(if e.f=i then e.a else 0)else 0
def zDI (es:List En)(day i:Int):Int:=(es.map (amt day i)).sum
def zCd (n:Nat)(es:List En)(day:Int):List Int:=(kM n).map fun i:Nat=>zDI es day i
theorem zCS (n:Nat)(es:List En)(day:Int):(zCd n es day).length=n:=by simp[zCd]
theorem zCm (es:List En)(day:Int)(hi:i<n):(zCd n es day).getD i 0=zDI es day i:=by simp[zCd,eD,hi]
theorem zD0 (es fs:List En)(day i:Int):zDI (es++fs) day i=zDI es day i+zDI fs day i:=by simp[zDI]
theorem zDi (e:En)(es:List En)(day i:Int):zDI (e::es) day i=amt day i e+zDI es day i:=by simp[zDI]
theorem zGi (day i:Int):zDI [] day i=0:=rfl
theorem zEp (e:En)(day i:Int):zDI [e] day i=amt day i e:=by simp[zDI]
theorem zGl (n:Nat)(day:Int):zCd n [] day=ib n 0:=by
 apply lN<;>simp[zCd,zDI]
theorem zK1 {acc:Int}(he:okE acc e)(day i:Int): -1000<=amt day i e/\amt day i e<=1000:=by
 obtain⟨_,_,_,g,j⟩:=he;unfold amt;split<;>(try split)<;>(try split)<;>omega
theorem zDq {acc:Int}(day i:Int):∀{es:List En},(∀e∈es,okE acc e)-> -(1000*(es.length:Int))<=zDI es day i/\zDI es day i<=1000*(es.length:Int)
 |[],_=>by simp[zDI]
 |e::es,H=>by
  have j:=zK1 (H e (List.mem_cons_self ..)) day i;have m:=zDq day i (es:=es) fun x g=>H x (List.mem_cons_of_mem _ g)
  rw[zDi,lT]
  push_cast
  omega
theorem zE1 {ys:List Int}(hl:xs.length=ys.length)(H:∀i<xs.length,xs.getD i 0=ys.getD i 0):xs=ys:=by
 apply lN hl;intro i g j;have:=H i g;simpa[eD,aS g,aS j]using this
theorem zEP (xs:List Int)(i j:Nat)(v:Int):(xs.set i v).getD j 0=if i=j/\i<xs.length then v else xs.getD j 0:=by
 simp only[eD,List.getElem?_set];by_cases h:i=j
 .subst h;by_cases g:i<xs.length<;>simp[g]
 .simp[h]
def zFU (xs:List Int)(f t:Nat)(m:Int):List Int:=(xs.set f (xs.getD f 0-m)).set t ((xs.set f (xs.getD f 0-m)).getD t 0+m)
theorem zEa (xs:List Int)(f t:Nat)(m:Int):(zFU xs f t m).length=xs.length:=by simp[zFU]
theorem zHb (m:Int)(hf:f<xs.length)(ht:t<xs.length):(zFU xs f t m).getD i 0=xs.getD i 0-(if f=i then m else 0)+(if t=i then m else 0):=by
 simp only[zFU,zEP,List.length_set];by_cases g:t=i<;>by_cases j:f=i<;>by_cases p:f=t<;>simp_all<;>omega
theorem zFr (hd:¬e.d<=day):zCd n (es++[e]) day=zCd n es day:=by
 unfold zCd;refine List.map_congr_left fun i _=> ?_
 rw[zD0,zEp,amt,if_neg hd];omega
theorem zEZ (hd:e.d<=day)(hf:e.f=f)(ht:e.t=t)(hfn:f<n)(htn:t<n):zFU (zCd n es day) f t e.a=zCd n (es++[e]) day:=by
 refine zE1 (by rw[zEa,zCS,zCS]) fun i g=> ?_
 rw[zEa,zCS]at g;rw[zHb _ (by rw[zCS];exact hfn) (by rw[zCS];exact htn),zCm _ _ g,zCm _ _ g,zD0,zEp,amt,if_pos hd,hf,ht];simp only[Int.ofNat_inj];omega
theorem zL7 {m:Nat}(es:List En)(day:Int)(h:m<=n):(zCd n es day).take m=zCd m es day:=by
 rw[zCd,<-List.map_take,List.take_range,mI h];rfl
theorem zEi (hi:i<es.length):es.take (i+1)=es.take i++[es[i]]:=by rw[dG,aS hi];rfl
end
end Go.Proofs.YtejmkibjpaoahaaGreatDoor
namespace Go.Proofs.YtejmkibjpaoahaaGreatDoor
open Go Go.Proofs Go.Eng Go.Run Tab
set_option maxHeartbeats 2000000
def zCJ:=(aF (aF (aF (aF @zD2 @zH0) (aF @zEn (aF @zFS @zGn))) (aF (aF @zEO (aF @zJ7 @zFv)) (aF @zE9 (aF @zEt @zEu)))) (aF (aF (aF @zDX (aF @zHd @zEw)) (aF @zDx (aF @zOI @sz3))) (aF (aF @zLN (aF @zHV @zEl)) (aF @zMt (aF @zEj @Tryz.underlying33)))))
def zD9:=(aF (aF @zD2 @zE9) (aF @zDX @sz3))
noncomputable instance (acc:Int)(e:En):Decidable (okE acc e):=iL _
noncomputable def pst (acc cl:Int)(es:List En)(e:En):Int:=
 if chk acc cl es≠0 then chk acc cl es else if¬okE acc e then 3 else if e.f=e.t then 16 else if e.d<=cl then 25 else if es.length=20 then 6 else 0
def zIQ (es:List En)(e:En):Nat:=es.findIdx fun x=>decide (e.d<x.d)
def ins (es:List En)(e:En):List En:=es.take (zIQ es e)++e::es.drop (zIQ es e)
theorem zKH (es:List En)(e:En):zIQ es e<=es.length:=List.findIdx_le_length
theorem zEE (es:List En)(e:En):(ins es e).length=es.length+1:=by
 have:=zKH es e;simp only[ins,bI,bL,lT,bQ];omega
noncomputable def zIW (acc cl:Int)(es:List En)(e:En):Int:=if pst acc cl es e=0 then acc else 0
noncomputable def zIX (acc cl:Int)(es:List En)(e:En):Int:=if pst acc cl es e=0 then cl else 0
noncomputable def zFQ (acc cl:Int)(es:List En)(e:En):List En:=if pst acc cl es e=0 then ins es e else[]
theorem zK5 (x e:En)(b:Nat)(h:Eng.Heap)(hb:h[b]? =some (.cells #[.int .i64 e.d,.int .i64 e.f,.int .i64 e.t,.int .i64 e.a] 39)):
 ak aD 42 (#[]++ #[.agg #[.int .i64 x.d,.int .i64 x.f,.int .i64 x.t,.int .i64 x.a]]++ #[.pointer (some ⟨b,0,none⟩)]) h (fun v h'=>v= .bool (decide (e.d<x.d))/\Ext h h'):=by
 simp only[eP,cZ,eB,kD,kL]
 (refine Rm Tryz.func42 rfl zPv ?_;simp only[Tryz.ntmps42,Tryz.results42,coreS,U1,splice,aC,af,seval,zD9])
 have g:¬(b=h.size):=by have:=bA hb;omega
 simp only[g,hb,if_false,coreS,aC,af,seval,zD9];exact(Ext.refl h).push _
theorem zPU (acc cl:Int)(a:Option Addr)(n c:Nat)(es:List En)(e:En)(h:Eng.Heap)(hr:Row h a (zDA es))(hn:n=es.length)(hl:n<=1000000):
 ak aD 10 #[.agg #[.int .i64 acc,.int .i64 cl,.slice a n c],.agg #[.int .i64 e.d,.int .i64 e.f,.int .i64 e.t,.int .i64 e.a]] h (fun v h'=>
  (∃a' n' c',v= .tuple #[.agg #[.int .i64 (zIW acc cl es e),.int .i64 (zIX acc cl es e),.slice a' n' c'],.int .i64 (pst acc cl es e)]/\Row h' a' (zDA (zFQ acc cl es e))/\n'=(zFQ acc cl es e).length/\∀p,a'=some p->h.size<=p.block)/\Ext h h'):=by
 (refine Rm Tryz.func10 rfl zPd ?_;simp only[Tryz.ntmps10,Tryz.results10,coreS,U1,splice,aC,af,seval,zCJ])
 simp only[show¬(h.size=h.size+1+1) by omega,if_false,coreS,aC,af,seval,zCJ];refine ak.mono (zJy acc cl a n c es _ (((hr.push _).push _).push _) hn hl) ?_;rintro v h1 ⟨rfl,x1⟩;have hb0:=x1.get (Jy (Jy (jD (h:=h))));have hb1:=x1.get (Jy pn1);have hb2:h1[h.size+2]? =some (.cells #[.int .i64 0,.int .i64 0,.slice none 0 0] 35):=x1.get (by rw[ed,if_pos (by simp)]);have y1:=x1.zBe.zBe.zBe;have bad:∀{p:Int} {h2:Eng.Heap},pst acc cl es e=p->p≠0->Ext h h2->(∃a' n' c',Value.tuple #[.agg #[.int .i64 0,.int .i64 0,.slice none 0 0],.int .i64 p]= .tuple #[.agg #[.int .i64 (zIW acc cl es e),.int .i64 (zIX acc cl es e),.slice a' n' c'],.int .i64 (pst acc cl es e)]/\Row h2 a' (zDA (zFQ acc cl es e))/\n'=(zFQ acc cl es e).length/\∀p,a'=some p->h.size<=p.block)/\Ext h h2:=by
  rintro p h2 rfl g x;exact⟨⟨none,0,0,by rw[zIW,zIX,if_neg g,if_neg g],by rw[zFQ,if_neg g];exact .inl rfl,by rw[zFQ,if_neg g];rfl,fun p g=>(by cases g)⟩,x⟩
 by_cases hc:chk acc cl es=0
 .obtain⟨ha,hl2,hcl,hok,hso,hft⟩:=zDw hc;simp only[hc,hb0,hb1,coreS,aC,af,seval,zCJ];refine ak.mono (zKT acc e _ (by omega)) ?_;rintro v h2 ⟨rfl,x2⟩;have c0:=x2.get hb0;have c1:=x2.get hb1;have c2:=x2.get hb2;have y2:=y1.trans x2;by_cases E:okE acc e
  .by_cases L:e.f=e.t
   .have g:pst acc cl es e=16:=by unfold pst;rw[if_neg (by simpa using hc),if_neg (by simpa using E),if_pos L]
    simp only[E,L,c0,c1,c2,decide_true,bz,coreS,aC,af,seval,zCJ];refine Oy c2 (by simp) fun h9 V u9=> ?_
    simp only[splice]at V;simp only[V,splice,coreS,aC,af,seval,zCJ];exact bad (g) (by omega) (u9.ext y2 (by omega))
   by_cases X:e.d<=cl
   .have g:pst acc cl es e=25:=by unfold pst;rw[if_neg (by simpa using hc),if_neg (by simpa using E),if_neg L,if_pos X]
    simp only[E,L,X,c0,c1,c2,decide_true,decide_false,bz,coreS,aC,af,seval,zCJ];refine Oy c2 (by simp) fun h9 V u9=> ?_
    simp only[splice]at V;simp only[V,splice,coreS,aC,af,seval,zCJ];exact bad (g) (by omega) (u9.ext y2 (by omega))
   by_cases h20:(n:Int)=20
   .have g:pst acc cl es e=6:=by unfold pst;rw[if_neg (by simpa using hc),if_neg (by simpa using E),if_neg L,if_neg X,if_pos (by omega)]
    simp only[E,L,X,h20,c0,c1,c2,decide_true,decide_false,bz,coreS,aC,af,seval,zCJ];refine Oy c2 (by simp) fun h9 V u9=> ?_
    simp only[splice]at V;simp only[V,splice,coreS,aC,af,seval,zCJ];exact bad (g) (by omega) (u9.ext y2 (by omega))
   have g:pst acc cl es e=0:=by unfold pst;rw[if_neg (by simpa using hc),if_neg (by simpa using E),if_neg L,if_neg X,if_neg (by omega)]
   simp only[E,L,X,h20,c0,c1,c2,decide_true,decide_false,bz,coreS,aC,af,seval,zCJ];refine ak.mono (zGL a n c es 42 _ (fun x=>decide (e.d<x.d)) h2 (hr.ext y2) hn hl fun x _ h' x'=>zK5 x e (h.size+1) h' (x'.get c1)) ?_;rintro v h3 ⟨rfl,x3⟩;have d0:=x3.get c0;have d1:=x3.get c1;have d2:=x3.get c2;have Z:=y2.trans x3;have hk:=zKH es e;obtain⟨k,hkd⟩:∃k,k=zIQ es e:=⟨_,rfl⟩;have W:zIq (fun x=>decide (e.d<x.d)) es=if k<es.length then(k:Int)else-1:=by
    rw[hkd,zIQ];unfold zIq;rw[List.findIdx?_eq_guard_findIdx_lt];by_cases J:es.findIdx (fun x=>decide (e.d<x.d))<es.length
    .simp[J,Option.guard]
    .simp[J,Option.guard]
   by_cases hkl:k<es.length
   .rw[if_pos hkl]at W;simp only[W,coreS,aC,af,seval,zCJ];refine⟨fun J=>absurd J (by omega),fun _=> ?_⟩;refine zBV (by kernel_rfl) zBc 2 5 [(0,0),(1,0),(3,0),(4,0)] [(6,1),(7,0),(8,1)] (by kernel_rfl) (by kernel_rfl) (by kernel_rfl) rfl (by kernel_rfl) ?_;simp only[Xi,Zo,zB8,d0,d1,coreS,aC,af,seval,drawS,zCJ];have hs3:=bA d2;refine zAL fun h4 Y=>⟨?_,?_⟩
    .simp only[zBR,coreS,aC,af,Nat.reduceAdd,Nat.reduceSub,Nat.reduceMul,Nat.reduceLeDiff,Int.reduceEq,Nat.reduceEqDiff,drawS,zCJ];refine ak.mono (zG2 a _ c es h4 (hr.ext (Z.trans Y)) hn (by omega)) ?_;rintro v h5 ⟨a5,c5,rfl,O5,F⟩;refine⟨F,fun h6 H=> ?_⟩;simp only[splice,coreS,aC,af,Nat.reduceAdd,Nat.reduceSub,Nat.reduceMul,Nat.reduceLeDiff,Int.reduceEq,Nat.reduceEqDiff,drawS,zCJ];refine⟨by omega,(Ext.refl h6).push _,?_⟩;refine Rj (by rfl) (by rfl) fun J I=> ?_
     simp only[coreS,aC,af,seval,drawS,zCJ];have O7:=((O5.ext H).ext ((Ext.refl h6).push _)).ext I;have U:Ext h3 J:=(((Y.trans F).trans H).push _).trans I;have T:h3.size<=h4.size:=Y.size;refine ak.mono (zFd h4.size a5 _ c5 k h6.size es e J O7 (by have:=F.size;have:=H.size;have:=I.size;simp at this;omega) hn (by omega) (by omega) (I.get jD) (fun p g=>by have:=(O5.lt g).1;have:=H.size;omega)) ?_;rintro v h8 ⟨a8,c8,rfl,q,j,Q⟩;have N:=Q _ U T;have k0:=N.get d0;have k2:=N.get d2;simp only[coreS,aC,af,seval,drawS,zCJ];refine Rj (by rfl) (by rfl) fun h9 D=> ?_
     simp only[D.get k0,coreS,aC,af,seval,drawS,zCJ];refine Oy (D.get k0) (by simp) fun h10 u s=> ?_
     simp only[splice]at u;simp only[Uw,PX,coreS,aC,af,seval,drawS,zCJ];refine zBw fun h11 m=> ?_
     have O:=m.get u;have B:=m.get (s.get (D.get k2) (by omega));have S:=(zDy (q.ext D) s (fun p g=>by have:=j p g;omega)).ext m;have M:=(s.ext (((Z.trans N)).trans D) (by omega)).trans m;simp only[O,B,coreS,aC,af,seval,zCJ];refine Oy B (by simp) fun h12 z C=> ?_
     simp only[splice]at z;simp only[z,splice,coreS,aC,af,seval,zCJ];refine⟨⟨a8,_,_,by rw[zIW,zIX,if_pos g,if_pos g,g],?_,by rw[zFQ,if_pos g,zEE,hn],fun p g=>by have:=j p g;have:=Z.size;omega⟩,C.ext M (by omega)⟩;rw[zFQ,if_pos g,ins,<-hkd];exact zDy S C (fun p g=>by have:=j p g;omega)
    .simp only[zBR,splice,coreS,aC,af,Nat.reduceAdd,Nat.reduceSub,Nat.reduceMul,Nat.reduceLeDiff,Int.reduceEq,Nat.reduceEqDiff,drawS,zCJ];refine⟨by omega,(Ext.refl h4).push _,fun h5 F=> ?_⟩;refine ak.mono (zG2 a _ c es h5 (hr.ext (Z.trans (Y.trans (F.zBe)))) hn (by omega)) ?_;rintro v h6 ⟨a5,c5,rfl,O5,H⟩;refine⟨H,?_⟩;refine Rj (by rfl) (by rfl) fun J I=> ?_
     simp only[coreS,aC,af,seval,drawS,zCJ];have O7:=O5.ext I;have U:Ext h3 J:=((Y.trans F.zBe).trans H).trans I;have T:h3.size<=h5.size:=(Y.trans F.zBe).size;refine ak.mono (zFd h5.size a5 _ c5 k h4.size es e J O7 (by have:=H.size;have:=I.size;omega) hn (by omega) (by omega) (I.get (H.get (F.get jD))) (fun p g=>by have:=(O5.lt g).2;have:=F.size;simp at this;omega)) ?_;rintro v h8 ⟨a8,c8,rfl,q,j,Q⟩;have N:=Q _ U T;have k0:=N.get d0;have k2:=N.get d2;simp only[coreS,aC,af,seval,drawS,zCJ];refine Rj (by rfl) (by rfl) fun h9 D=> ?_
     simp only[D.get k0,coreS,aC,af,seval,drawS,zCJ];refine Oy (D.get k0) (by simp) fun h10 u s=> ?_
     simp only[splice]at u;simp only[Uw,PX,coreS,aC,af,seval,drawS,zCJ];refine zBw fun h11 m=> ?_
     have O:=m.get u;have B:=m.get (s.get (D.get k2) (by omega));have S:=(zDy (q.ext D) s (fun p g=>by have:=j p g;omega)).ext m;have M:=(s.ext (((Z.trans N)).trans D) (by omega)).trans m;simp only[O,B,coreS,aC,af,seval,zCJ];refine Oy B (by simp) fun h12 z C=> ?_
     simp only[splice]at z;simp only[z,splice,coreS,aC,af,seval,zCJ];refine⟨⟨a8,_,_,by rw[zIW,zIX,if_pos g,if_pos g,g],?_,by rw[zFQ,if_pos g,zEE,hn],fun p g=>by have:=j p g;have:=Z.size;omega⟩,C.ext M (by omega)⟩;rw[zFQ,if_pos g,ins,<-hkd];exact zDy S C (fun p g=>by have:=j p g;omega)
   .rw[if_neg hkl]at W;simp only[W,d0,coreS,aC,af,seval,zCJ];have hkn:k=n:=by omega
    subst hkn
    try (refine⟨fun _=> ?_,fun J=>absurd J (by omega)⟩)
    refine zBV (by kernel_rfl) zBc 2 5 [(0,0),(1,0),(3,0),(4,0)] [(6,1),(7,0),(8,1)] (by kernel_rfl) (by kernel_rfl) (by kernel_rfl) rfl (by kernel_rfl) ?_;simp only[Xi,Zo,zB8,d0,d1,coreS,aC,af,seval,drawS,zCJ];have hs3:=bA d2;refine zAL fun h4 Y=>⟨?_,?_⟩
    .simp only[zBR,coreS,aC,af,Nat.reduceAdd,Nat.reduceSub,Nat.reduceMul,Nat.reduceLeDiff,Int.reduceEq,Nat.reduceEqDiff,drawS,zCJ];refine ak.mono (zG2 a _ c es h4 (hr.ext (Z.trans Y)) hn (by omega)) ?_;rintro v h5 ⟨a5,c5,rfl,O5,F⟩;refine⟨F,fun h6 H=> ?_⟩;simp only[splice,coreS,aC,af,Nat.reduceAdd,Nat.reduceSub,Nat.reduceMul,Nat.reduceLeDiff,Int.reduceEq,Nat.reduceEqDiff,drawS,zCJ];refine⟨by omega,(Ext.refl h6).push _,?_⟩;refine Rj (by rfl) (by rfl) fun J I=> ?_
     simp only[coreS,aC,af,seval,drawS,zCJ];have O7:=((O5.ext H).ext ((Ext.refl h6).push _)).ext I;have U:Ext h3 J:=(((Y.trans F).trans H).push _).trans I;have T:h3.size<=h4.size:=Y.size;refine ak.mono (zFd h4.size a5 _ c5 k h6.size es e J O7 (by have:=F.size;have:=H.size;have:=I.size;simp at this;omega) hn (by omega) (by omega) (I.get jD) (fun p g=>by have:=(O5.lt g).1;have:=H.size;omega)) ?_;rintro v h8 ⟨a8,c8,rfl,q,j,Q⟩;have N:=Q _ U T;have k0:=N.get d0;have k2:=N.get d2;simp only[coreS,aC,af,seval,drawS,zCJ];refine Rj (by rfl) (by rfl) fun h9 D=> ?_
     simp only[D.get k0,coreS,aC,af,seval,drawS,zCJ];refine Oy (D.get k0) (by simp) fun h10 u s=> ?_
     simp only[splice]at u;simp only[Uw,PX,coreS,aC,af,seval,drawS,zCJ];refine zBw fun h11 m=> ?_
     have O:=m.get u;have B:=m.get (s.get (D.get k2) (by omega));have S:=(zDy (q.ext D) s (fun p g=>by have:=j p g;omega)).ext m;have M:=(s.ext (((Z.trans N)).trans D) (by omega)).trans m;simp only[O,B,coreS,aC,af,seval,zCJ];refine Oy B (by simp) fun h12 z C=> ?_
     simp only[splice]at z;simp only[z,splice,coreS,aC,af,seval,zCJ];refine⟨⟨a8,_,_,by rw[zIW,zIX,if_pos g,if_pos g,g],?_,by rw[zFQ,if_pos g,zEE,hn],fun p g=>by have:=j p g;have:=Z.size;omega⟩,C.ext M (by omega)⟩;rw[zFQ,if_pos g,ins,<-hkd];exact zDy S C (fun p g=>by have:=j p g;omega)
    .simp only[zBR,splice,coreS,aC,af,Nat.reduceAdd,Nat.reduceSub,Nat.reduceMul,Nat.reduceLeDiff,Int.reduceEq,Nat.reduceEqDiff,drawS,zCJ];refine⟨by omega,(Ext.refl h4).push _,fun h5 F=> ?_⟩;refine ak.mono (zG2 a _ c es h5 (hr.ext (Z.trans (Y.trans (F.zBe)))) hn (by omega)) ?_;rintro v h6 ⟨a5,c5,rfl,O5,H⟩;refine⟨H,?_⟩;refine Rj (by rfl) (by rfl) fun J I=> ?_
     simp only[coreS,aC,af,seval,drawS,zCJ];have O7:=O5.ext I;have U:Ext h3 J:=((Y.trans F.zBe).trans H).trans I;have T:h3.size<=h5.size:=(Y.trans F.zBe).size;refine ak.mono (zFd h5.size a5 _ c5 k h4.size es e J O7 (by have:=H.size;have:=I.size;omega) hn (by omega) (by omega) (I.get (H.get (F.get jD))) (fun p g=>by have:=(O5.lt g).2;have:=F.size;simp at this;omega)) ?_;rintro v h8 ⟨a8,c8,rfl,q,j,Q⟩;have N:=Q _ U T;have k0:=N.get d0;have k2:=N.get d2;simp only[coreS,aC,af,seval,drawS,zCJ];refine Rj (by rfl) (by rfl) fun h9 D=> ?_
     simp only[D.get k0,coreS,aC,af,seval,drawS,zCJ];refine Oy (D.get k0) (by simp) fun h10 u s=> ?_
     simp only[splice]at u;simp only[Uw,PX,coreS,aC,af,seval,drawS,zCJ];refine zBw fun h11 m=> ?_
     have O:=m.get u;have B:=m.get (s.get (D.get k2) (by omega));have S:=(zDy (q.ext D) s (fun p g=>by have:=j p g;omega)).ext m;have M:=(s.ext (((Z.trans N)).trans D) (by omega)).trans m;simp only[O,B,coreS,aC,af,seval,zCJ];refine Oy B (by simp) fun h12 z C=> ?_
     simp only[splice]at z;simp only[z,splice,coreS,aC,af,seval,zCJ];refine⟨⟨a8,_,_,by rw[zIW,zIX,if_pos g,if_pos g,g],?_,by rw[zFQ,if_pos g,zEE,hn],fun p g=>by have:=j p g;have:=Z.size;omega⟩,C.ext M (by omega)⟩;rw[zFQ,if_pos g,ins,<-hkd];exact zDy S C (fun p g=>by have:=j p g;omega)
  .have g:pst acc cl es e=3:=by unfold pst;rw[if_neg (by simpa using hc),if_pos E]
   simp only[E,c2,decide_false,aZ,coreS,aC,af,seval,zCJ];refine Oy c2 (by simp) fun h9 V u9=> ?_
   simp only[splice]at V;simp only[V,splice,coreS,aC,af,seval,zCJ];exact bad (g) (by omega) (u9.ext y2 (by omega))
 .have g:pst acc cl es e=chk acc cl es:=by unfold pst;rw[if_pos hc]
  simp only[hc,hb2,decide_false,aZ,coreS,aC,af,seval,zCJ];refine Oy hb2 (by simp) fun h9 V u9=> ?_
  simp only[splice]at V;simp only[V,splice,coreS,aC,af,seval,zCJ];exact bad (g) (hc) (u9.ext y1 (by omega))
end Go.Proofs.YtejmkibjpaoahaaGreatDoor
namespace Go.Proofs.YtejmkibjpaoahaaGreatDoor
open Go Go.Proofs Go.Eng Tab
section
variable {acc cl:Int}{e:En}{es:List En}
theorem zEd (e:En):ins [] e=[e]:=by simp[ins,zIQ]
theorem zDm (x e:En)(xs:List En):ins (x::xs) e=if e.d<x.d then e::x::xs else x::ins xs e:=by
 unfold ins zIQ;by_cases h:e.d<x.d<;>simp[List.findIdx_cons,h]
theorem zFc {e x:En}:∀{es:List En},x∈ins es e<->x=e\/x∈es
 |[]=>by simp[zEd]
 |y::ys=>by
  rw[zDm];split
  .simp
  .rw[lc,zFc (es:=ys),lc];constructor
   .rintro(h|h|h)<;>simp[h]
   .rintro(h|h|h)<;>simp[h]
theorem zL6 (es:List En)(e:En)(day i:Int):zDI (ins es e) day i=zDI es day i+amt day i e:=by
 have h:zDI es day i=zDI (es.take (zIQ es e)) day i+zDI (es.drop (zIQ es e)) day i:=by rw[<-zD0,bv]
 rw[ins,zD0,zDi,h];omega
theorem zLL:zEX es<->es.Pairwise fun a b=>a.d<=b.d:=by
 rw[List.pairwise_iff_getElem];constructor
 .intro H i j g s q;induction j with
  |zero=>omega
  |succ j ih=>
   have m:=H j s;by_cases p:i=j
   .subst p;exact m
   .have:=ih (by omega) (by omega);omega
 .intro H i g;exact H i (i+1) (by omega) g (by omega)
theorem zMc {e:En}:∀{es:List En},(es.Pairwise fun a b=>a.d<=b.d)->(ins es e).Pairwise fun a b=>a.d<=b.d
 |[],_=>by rw[zEd];simp
 |x::xs,H=>by
  rw[dn]at H;rw[zDm];split
  .rename_i h;refine dn.2 ⟨fun y g=> ?_,dn.2 H⟩;rw[lc]at g;rcases g with rfl|g
   .omega
   .have:=H.1 y g;omega
  .rename_i h;refine dn.2 ⟨fun y g=> ?_,zMc H.2⟩;rw[zFc]at g;rcases g with rfl|g
   .omega
   .exact H.1 y g
theorem zIF:chk acc cl es=0<->(2<=acc/\acc<=8)/\es.length<=20/\(0<=cl/\cl<=30)/\(∀e∈es,okE acc e)/\(es.Pairwise fun a b=>a.d<=b.d)/\∀e∈es,e.f≠e.t:=by
 rw[<-zLL];constructor
 .exact zDw
 .rintro⟨g,u,j,m,p,q⟩;unfold chk;rw[if_neg,if_neg,if_neg]
  .rintro(h|⟨e,s,h⟩)
   .exact h p
   .exact q e s h
  .rintro(h|h)
   .exact h j
   .exact h m
  .rintro(h|h)
   .exact h g
   .omega
theorem zKQ:pst acc cl es e=0<->chk acc cl es=0/\okE acc e/\e.f≠e.t/\cl<e.d/\es.length≠20:=by
 unfold pst;split
 .rename_i h;exact⟨fun g=>absurd g h,fun g=>absurd g.1 h⟩
 rename_i h0;split
 .rename_i h;exact⟨fun g=>(by omega),fun g=>absurd g.2.1 h⟩
 rename_i j;split
 .rename_i h;exact⟨fun g=>(by omega),fun g=>absurd h g.2.2.1⟩
 rename_i m;split
 .rename_i h;exact⟨fun g=>(by omega),fun g=>(by have:=g.2.2.2.1;omega)⟩
 rename_i q;split
 .rename_i h;exact⟨fun g=>(by omega),fun g=>absurd h g.2.2.2.2⟩
 rename_i p;exact⟨fun _=>⟨bJ.1 h0,bJ.1 j,m,by omega,p⟩,fun _=>rfl⟩
theorem zNF (H:pst acc cl es e=0):chk acc cl (ins es e)=0:=by
 obtain⟨z,B,j,D,E⟩:=zKQ.1 H;obtain⟨m,C,p,q,s,u⟩:=zIF.1 z;refine zIF.2 ⟨m,by rw[zEE];omega,p,fun x g=> ?_,zMc s,fun x g=> ?_⟩
 .rcases zFc.1 g with rfl|g
  .exact B
  .exact q x g
 .rcases zFc.1 g with rfl|g
  .exact j
  .exact u x g
theorem zPP {day:Int}(hc:chk acc cl es=0)(hd:0<=day/\day<=30):opn acc cl es [day]=0:=by
 rw[opn,if_neg (by simpa using hc),if_pos (by rw[zDW];simpa using hd)]
end
end Go.Proofs.YtejmkibjpaoahaaGreatDoor
namespace Go.Proofs.YtejmkibjpaoahaaGreatDoor
open Go Go.Proofs Go.Eng Tab
set_option maxHeartbeats 1000000
def zCc:=(aF (aF (aF (aF @zFp (aF @zFq @zD2)) (aF @zH0 (aF @zFS @zGn))) (aF (aF @zIJ (aF @zFv @zE9)) (aF (aF @zEt @zEu) (aF @zIL @zGA)))) (aF (aF (aF @zFP (aF @zDX @zHd)) (aF (aF @zDx @zHs) (aF @sz2 @sz3))) (aF (aF @zLN (aF @zEl @zFM)) (aF (aF @zEj @Tryz.underlying33) (aF @Tryz.underlying48 @Tryz.underlying103)))))
def zCx:=(aF (aF @zFq @zFP) (aF @sz2 @Tryz.underlying103))
theorem zKD (g:Nat)(xs:List Int)(f t:Nat)(m:Int)(h:Eng.Heap)(hb:h[g]? =some (.cells (ints xs).toArray 103))(hl:xs.length=8)(hf:f<8)(ht:t<8)
 (o1:InK .i64 (xs.getD f 0-m)) (o2:InK .i64 ((xs.set f (xs.getD f 0-m)).getD t 0+m)):
 ak aD 56 #[.pointer (some ⟨g,0,none⟩),.int .i64 f,.int .i64 t,.int .i64 m] h (fun v h'=>h'[g]? =some (.cells (ints (zFU xs f t m)).toArray 103)/\Upd h h' g):=by
 (refine Rm Tryz.func56 rfl zQJ ?_;simp only[Tryz.ntmps56,Tryz.results56,coreS,U1,splice,aC,af,seval,zCx])
 refine zB9 (by kernel_rfl) zBp [(0,0),(1,0),(2,0),(3,0),(4,0),(5,0),(6,0),(7,0),(8,0),(9,1)] (by kernel_rfl) rfl (by kernel_rfl) ?_;simp only[hb,Cn xs f (by omega),aY,coreS,aC,af,seval,drawS,zCx]
 repeat (refine aF (by first|omega|(rw[zBS];omega)|rfl|assumption) ?_)
 refine Oy hb (by simp[aR];omega) fun u j q=> ?_
 rw[MN _ _ _ (by rw[aR];omega),ints_set]at j;simp only[Ye,coreS,aC,af,seval,drawS,zCx];refine zB9 (by kernel_rfl) zBp [(0,0),(1,0),(2,0),(3,0),(4,0),(5,0),(6,0),(7,0),(8,0),(9,1)] (by kernel_rfl) rfl (by kernel_rfl) ?_;simp only[j,Cn (xs.set f (xs.getD f 0-m)) t (by simp;omega),aY,Ye,coreS,aC,af,seval,drawS,zCx]
 repeat (refine aF (by first|omega|(rw[zBS];omega)|rfl|assumption) ?_)
 refine Oy j (by simp[aR];omega) fun z p s=> ?_
 rw[MN _ _ _ (by simp[aR];omega),ints_set]at p;simp only[Ye,coreS,aC,af,seval,drawS,zCx];exact⟨p,q.trans s⟩
theorem zQT {h:Eng.Heap}{er:Env}{ty ct:TypeId}{x:Operand}{g off n c:Nat}{cur:List Value}{K:Value->Eng.Heap->Prop}(hx:ev er x= .slice (some ⟨g,off,none⟩) n c)(hb:h[g]? =some (.cells cur.toArray ct (0,0)))(hl:off+n<=cur.length)
 (H:∀h',h'[g]? =some (.cells (splice cur off (ib n (.int .i64 0))).toArray ct (0,0))->Upd h h' g->K (.tuple #[]) h'):aI aD (.call ⟨.builtin .clear,#[x],#[48]⟩) ty er h K:=
 Xl iq zFm hx hb hl H
theorem zQU {h:Eng.Heap}{er:Env}{ty ct:TypeId}{x y:Operand}{b:Option Addr}{g off n c m c2:Nat}{cur:List Value}{ys:List Int}{K:Value->Eng.Heap->Prop}(hx:ev er x= .slice (some ⟨g,off,none⟩) n c)(hy:ev er y= .slice b m c2)(hb:h[g]? =some (.cells cur.toArray ct (0,0)))(hl:off+n<=cur.length)(I:eu h b m ys)
 (H:∀h',h'[g]? =some (.cells (splice cur off (ints (ys.take n))).toArray ct (0,0))->Upd h h' g->K (.int .i64 (min m n:Nat)) h'):aI aD (.call ⟨.builtin .copy,#[x,y],#[48,48]⟩) ty er h K:=
 Y9 iq iq zFP sz2 hx hy hb hl I H
theorem zEN (g0:Nat)(acc cl:Int)(a:Option Addr)(n c:Nat)(es:List En)(day:Int)(h:Eng.Heap)(hb0:h[g0]? =some (.cells #[.int .i64 acc,.int .i64 cl,.slice a n c] 181))(hr:Row h a (zDA es))(hn:n=es.length)(hl:n<=20)(hok:∀e∈es,okE acc e)(ha:acc<=8)(hne:∀e∈es,e.f≠e.t):
 ak aD 50 #[.pointer (some ⟨g0,0,none⟩),.int .i64 day] h (fun v h'=>v= .agg (ints (zCd 8 es day)).toArray/\Ext h h'):=by
 (refine Rm Tryz.func50 rfl zQD ?_;simp only[Tryz.ntmps50,Tryz.results50,coreS,U1,splice,aC,af,Nat.reduceAdd,Nat.reduceSub,Nat.reduceMul,Nat.reduceLeDiff,Int.reduceEq,Nat.reduceEqDiff,zCc])
 have e8:(((8:Nat):Int)-((0:Nat):Int)).toNat=8:=rfl;simp only[ite_self,e8];refine⟨by omega,by omega,by omega,by omega,?_⟩;have z:=jD (h:=h.push (.cells #[.int .i64 0,.int .i64 0,.int .i64 0,.int .i64 0,.int .i64 0,.int .i64 0,.int .i64 0,.int .i64 0] 103)) (o:= .cells #[.int .i64 0,.int .i64 0,.int .i64 0,.int .i64 0,.int .i64 0,.int .i64 0,.int .i64 0,.int .i64 0] 103);rw[Rh]at z;refine zQT (cur:=[.int .i64 0,.int .i64 0,.int .i64 0,.int .i64 0,.int .i64 0,.int .i64 0,.int .i64 0,.int .i64 0]) rfl z (by simp) fun E U u1=> ?_
 have x1:Ext h E:=u1.ext (((Ext.refl h).push _).push _) (by omega);have q4:E[h.size]? =some (.cells #[.int .i64 0,.int .i64 0,.int .i64 0,.int .i64 0,.int .i64 0,.int .i64 0,.int .i64 0,.int .i64 0] 103):=u1.get pn0 (by omega)
 replace U:E[h.size+1]? =some (.cells (ints (zCd 8 (es.take 0) day)).toArray 103):=by rw[nY,zGl];exact U
 have W:=x1.get hb0;simp only[W,coreS,aC,af,seval,zCc];refine zAi [7,15,16,17,18,19,20,21,22,23,24,25,26,27,28,29,30] (fun g h'=>∃i:Nat,i<=n/\g 15= .int .i64 i/\h'[h.size+1]? =some (.cells (ints (zCd 8 (es.take i) day)).toArray 103)/\h'[h.size]? =some (.cells #[.int .i64 0,.int .i64 0,.int .i64 0,.int .i64 0,.int .i64 0,.int .i64 0,.int .i64 0,.int .i64 0] 103)/\Ext h h') (fun g _=>match g 15 with| .int _ m=>n-m.toNat|_=>0) ⟨0,by omega,rfl,U,q4,x1⟩ ?_;rintro g h' ⟨i,hin,hg,p,F,H⟩;have D:h.size+1<h'.size:=bA p;by_cases C:i<es.length
 .have Y:a.isSome=true:=hr.isSome (by rw[zDB];omega);have B:=zLH (hr.ext H) C;have j:=hok _ (bE C);have hfe:=hne _ (bE C);obtain⟨f,hf⟩:∃f:Nat,es[i].f=f:=⟨es[i].f.toNat,by unfold okE at j;omega⟩;obtain⟨t,ht⟩:∃t:Nat,es[i].t=t:=⟨es[i].t.toNat,by unfold okE at j;omega⟩;have q:f<8:=by unfold okE at j;omega
  have s:t<8:=by unfold okE at j;omega
  have hft:f≠t:=by omega
  rw[hf,ht]at B;simp only[hg,B,coreS,aC,af,seval,zCc];refine⟨fun _=> ?_,fun X=>absurd X (by omega)⟩;refine⟨by omega,Y,?_⟩;simp only[coreS,U1,splice,aC,af,seval,zCc];refine⟨fun hd=> ?_,fun hd=> ?_⟩
  .have V:(h'.push (.cells #[.int .i64 es[i].d,.int .i64 f,.int .i64 t,.int .i64 es[i].a] 39))[h.size+1]? =some (.cells (ints (zCd 8 (es.take i) day)).toArray 103):=Jy p;have hA:∀k,-(20000:Int)<=zDI (es.take i) day k/\zDI (es.take i) day k<=20000:=fun k=>by
    have:=zDq day k (es:=es.take i) fun e he=>hok e (bS he)
    have h2:(es.take i).length<=20:=by rw[bL];omega
    omega
   have E:=hA f;have h2:=hA t;have Z:1<=es[i].a/\es[i].a<=1000:=j.2.2.2;refine ak.mono (zKD (h.size+1) _ f t es[i].a _ V (zCS ..) q s ?_ ?_) ?_
   .rw[zCm _ _ q,zBS];omega
   .rw[zEP,if_neg (by omega),zCm _ _ s,zBS];omega
   .rintro v Z ⟨u,I⟩;rw[zEZ hd hf ht q s,<-zEi C]at u;simp only[coreS,aC,af,seval,zCc];refine⟨by rw[zBS];omega,Zr (by kernel_rfl) ⟨i+1,by omega,rfl,u,I.get (Jy F) (by omega),I.ext (H.push _) (by omega)⟩ ?_⟩;show n-((i:Int)+1).toNat<n-(i:Int).toNat;omega
  .refine⟨by rw[zBS];omega,Zr (by kernel_rfl) ⟨i+1,by omega,rfl,?_,Jy F,H.push _⟩ ?_⟩
   .rw[zEi C,zFr (by omega)];exact Jy p
   .show n-((i:Int)+1).toNat<n-(i:Int).toNat;omega
 .obtain rfl:i=n:=by omega
  rw[aN (by omega)]at p;obtain⟨J,L,M,N,O,Q,S,T,h8⟩:∃J L M N O Q S T:Int,zCd 8 es day=[J,L,M,N,O,Q,S,T]:=⟨_,_,_,_,_,_,_,_,rfl⟩
  replace p:h'[h.size+1]? =some (.cells #[.int .i64 J,.int .i64 L,.int .i64 M,.int .i64 N,.int .i64 O,.int .i64 Q,.int .i64 S,.int .i64 T] 103):=by rw[p,h8];rfl
  simp only[hg,p,F,coreS,aC,af,seval,zCc];refine⟨fun D=>absurd D (by omega),fun _=> ?_⟩;refine Oy F (by simp) fun Z u I=> ?_
  simp only[splice]at u;simp only[u,coreS,U1,splice,aC,af,seval,zCc];refine⟨by rw[h8];rfl,I.ext H (by omega)⟩
def zCy:=(aF (aF (aF (aF @zFp @zD2) (aF @zEn (aF @by2 @by3))) (aF (aF @zEO @zGA) (aF @zFP (aF @zDX @zEw)))) (aF (aF (aF @zHs @sz2) (aF @sz3 (aF @zHV @zFM))) (aF (aF @zFm @zDf) (aF @Tryz.underlying29 (aF @Tryz.underlying48 @Tryz.underlying103)))))
noncomputable def zI6 (acc cl:Int)(es:List En)(day:Int):List Int:=if opn acc cl es [day]=0 then zCd acc.toNat es day else[]
theorem zGk (acc cl:Int)(a:Option Addr)(n c:Nat)(es:List En)(day:Int)(h:Eng.Heap)(hr:Row h a (zDA es))(hn:n=es.length)(hl:n<=1000000):
 ak aD 15 #[.agg #[.int .i64 acc,.int .i64 cl,.slice a n c],.int .i64 day] h (fun v h'=>(∃b m k,v= .tuple #[.slice b m k,.int .i64 (opn acc cl es [day])]/\eu h' b m (zI6 acc cl es day)/\m<=8)/\Ext h h'):=by
 (refine Rm Tryz.func15 rfl zPi ?_;simp only[Tryz.ntmps15,Tryz.results15,coreS,U1,splice,aC,af,seval,zCy])
 refine ak.mono (zGD acc cl a n c es _ 1 1 [day] _ ((hr.push _).push _) hn hl (zDD pn1) (by omega)) ?_;rintro v Z ⟨W,H⟩;have J:=W.get pn0;have F:=W.zBe.zBe;rcases H with⟨j,g,rfl,hg,hsz⟩|⟨j,rfl⟩
 .obtain⟨hc,hd⟩:=zEz j;obtain⟨ha,hl2,hcl,O,hso,L⟩:=zDw hc;simp only[coreS,aC,af,seval,zCy];refine ak.mono (zEN g acc cl a n c es day Z hg (hr.ext F) hn (by omega) O ha.2 L) ?_;rintro v S ⟨rfl,Q⟩;obtain⟨q,s,u,z,B,C,D,E,h8⟩:∃q s u z B C D E:Int,zCd 8 es day=[q,s,u,z,B,C,D,E]:=⟨_,_,_,_,_,_,_,_,rfl⟩;have T:(ints (zCd 8 es day)).toArray= #[.int .i64 q,.int .i64 s,.int .i64 u,.int .i64 z,.int .i64 B,.int .i64 C,.int .i64 D,.int .i64 E]:=by rw[h8];rfl
  have p:=Q.get J;rw[T];have V:=bA p;have N:¬(h.size=S.size):=by omega
  simp only[N,if_false,p,coreS,U1,splice,aC,af,Nat.reduceAdd,Nat.reduceSub,Nat.reduceMul,Nat.reduceLeDiff,Int.reduceEq,Nat.reduceEqDiff,zCy];obtain⟨k,rfl⟩:∃k:Nat,acc=k:=⟨acc.toNat,by omega⟩;have M:k<=8:=by omega
  have X:(((8:Nat):Int)-((0:Nat):Int)).toNat=8:=rfl;simp only[ite_self,X,aY];refine⟨by omega,by omega,by omega,by omega,by omega,by omega,by omega,by omega,?_⟩;have U:=eu.block (xs:=zCd 8 es day) (by rw[T];exact pn0 (h:=S) (o:= .cells #[.int .i64 q,.int .i64 s,.int .i64 u,.int .i64 z,.int .i64 B,.int .i64 C,.int .i64 D,.int .i64 E] 103) (o':= .cells (ib k [mK .i64 0]).flatten.toArray 2));rw[zCS]at U;refine zQU rfl rfl pn1 (by simp) U fun h3 I u3=> ?_
  rw[zL7 es day M]at I;have Y:splice (ib k [mK .i64 0]).flatten 0 (ints (zCd k es day))=ints (zCd k es day):=by
   simp[splice,aR,zCS]
  rw[Y]at I;simp only[coreS,aC,af,seval,zCy];refine⟨⟨_,k,k,by rw[j],?_,by omega⟩,u3.ext (((F.trans Q).push _).push _) (by have:=Q.size;have:=F.size;omega)⟩;rw[zI6,if_pos j,aY];have:=eu.block I;rwa[zCS]at this
 .simp only[j,decide_false,aZ,coreS,aC,af,seval,zCy];exact⟨⟨_,_,_,rfl,by rw[zI6,if_neg j];exact eu.nil _,by omega⟩,F⟩
end Go.Proofs.YtejmkibjpaoahaaGreatDoor
namespace Go.Eng
open Go
section yields
variable {P:Program}{l:Option Nat}{h:Heap}{e:Env}{d:List Deferred}{k:aj}
section
variable {Br:Code->Heap->Prop}{K:Value->Heap->Prop}{a b c:Code}{caps:Array Value}{f:Operand}{first:Array Value}{lo:Nat}{o:Obj}{ps:Array Tmp}{r:Nat}{rec:Loop}{rs:List ResultVar}{v:Value}{vs:List Value}{w:World}
def Aw (P:Program)(v:Value)(vs:List Value)(h:Heap)(K:Value->Heap->Prop):Prop:=
 ∀(er:Env) (f:Operand) (xs:Array Operand) (ats:Array TypeId) (ty:TypeId),ev er f=v->(xs.map (ev er)).toList=vs->aI P (.call ⟨.value f,xs,ats⟩) ty er h K
theorem Aw.run {K':Value->Heap->Prop}(H:Aw P v vs h K){er:Env}{xs:Array Operand}{ats:Array TypeId}{ty:TypeId}(hf:ev er f=v)(hx:(xs.map (ev er)).toList=vs)(hk:∀v h,K v h->K' v h):aI P (.call ⟨.value f,xs,ats⟩) ty er h K':=bH hk (H er f xs ats ty hf hx)
theorem Aw.run1 {u:Value}{K':Value->Heap->Prop}(H:Aw P v [u] h K){er:Env}{x:Operand}{ats:Array TypeId}{ty:TypeId}(hf:ev er f=v)(hx:ev er x=u)(hk:∀v h,K v h->K' v h):aI P (.call ⟨.value f,#[x],ats⟩) ty er h K':=bH hk (H er f #[x] ats ty hf (by simp[hx]))
theorem Xg {args:Array Value}{F:Prop}:qB P (.func (.yield lo) first caps) args h K F=F:=by unfold qB;rfl
theorem kN (hr:w.heap[r]? =some (.loop rec)):(pz r).run P w= .ok rec w:=by
 simp[pz,getObj,Sem.run,hr,cz]
theorem ow (hr:w.heap[r]? =some (.loop rec))(o:Obj):(setObj r o).run P w= .ok () {w with heap:=w.heap.setIfInBounds r o}:=by
 simp[setObj,Sem.run,hr]
theorem Mo (hr:w.heap[r]? =some (.loop rec)){args:Array Value}(hs:args.size=rec.params.size):
 (Instr.yield r args).run P w= .ok (.round r rec.fn ((rec.params.zip args).foldl (fun tmps (x:Tmp×Value)=>tmps.setIfInBounds x.1 x.2) rec.tmps) rec.assign rec.body) w:=by
 simp[Instr.yield,kN hr,cz,hs]
theorem Mk (hr:w.heap[r]? =some (.loop rec))(hs:rec.state= .ready):
 (lG r).run P w= .ok () {w with heap:=w.heap.setIfInBounds r (.loop {rec with state:= .busy})}:=by
 simp[lG,kN hr,ow hr,cz,hs]
theorem uT (hr:w.heap[r]? =some (.loop rec))(j:Option Code):
 (mM r j).run P w= .ok (.bool j.isNone) {w with heap:=w.heap.setIfInBounds r (.loop {rec with state:=if j.isNone then .ready else .done,pending:=j})}:=by
 simp[mM,kN hr,ow hr,cz]
theorem FM (hr:w.heap[r]? =some (.loop rec))(hs:rec.state≠.busy):
 (pq r).run P w= .ok rec.pending {w with heap:=w.heap.setIfInBounds r (.loop {rec with state:= .exhausted})}:=by
 have:(rec.state==LoopState.busy)=false:=by cases hst:rec.state<;>first|rfl|exact absurd hst hs
 simp[pq,kN hr,ow hr,cz,this];intro g;exact absurd g hs
theorem Bv:∀(l:List (Tmp×Value)) (a:Array Value),(l.foldl (fun tmps (x:Tmp×Value)=>tmps.setIfInBounds x.1 x.2) a).toList=l.foldl (fun er (x:Tmp×Value)=>er.set x.1 x.2) a.toList
 |[],a=>rfl
 |x::l,a=>by
  simp only[List.foldl_cons];rw[Bv l];simp
theorem Lu {fn:FuncId}{tmps:Array Value}:(lY fn tmps ps a b none).run P w= .ok (w.heap.size+1,[{target:= .collected w.heap.size,args:= #[]}])
 {w with heap:=(w.heap.push (.deferred (some []))).push (.loop {state:= .ready,pending:=none,fn,tmps,params:=ps,assign:=a,body:=b,defers:=w.heap.size})}:=by
 simp[lY,newObj,Sem.run,cz];exact⟨rfl,rfl,rfl⟩
def binds:List Tmp->List Value->Env->Env
 |p::ps,v::vs,e=>binds ps vs (e.set p v)
 |_,_,e=>e
theorem YV {p:Tmp}{ps:List Tmp}{e:Env}:binds (p::ps) (v::vs) e=binds ps vs (e.set p v):=eqi rfl
theorem Zi {e:Env}:binds [] vs e=e:=by simp[binds]
theorem Gx:∀(ps:List Tmp) (vs:List Value) (e:Env),binds ps vs e=(ps.zip vs).foldl (fun er (x:Tmp×Value)=>er.set x.1 x.2) e
 |[],vs,e=>by simp[binds]
 |p::ps,[],e=>by simp[binds]
 |p::ps,v::vs,e=>by simp[binds,Gx ps vs]
def zAs (lo:Nat)(K:Value->Heap->Prop):aj:=fun x _ _ h=>∃rec,h[lo]? =some (.loop rec)/\match x with
 | .normal=>K (.bool true) (h.setIfInBounds lo (.loop {rec with state:= .ready,pending:=none}))
 | .ret=>K (.bool false) (h.setIfInBounds lo (.loop {rec with state:= .done,pending:=some .ret}))
 | .exit i=>K (.bool false) (h.setIfInBounds lo (.loop {rec with state:= .done,pending:=some (.exit i)}))
 | .goto i=>K (.bool false) (h.setIfInBounds lo (.loop {rec with state:= .done,pending:=some (.goto i)}))
 |_=>False
def zAk (P:Program)(lo:Nat)(body:Code)(K:Value->Heap->Prop):aj:=fun x e d h=>x= .normal/\∃rec,h[lo]? =some (.loop rec)/\rec.state= .ready/\
 exec (some lo) P body (zAs lo K) e d (h.setIfInBounds lo (.loop {rec with state:= .busy}))
theorem yZ (hr:h[lo]? =some (.loop rec))(hsz:vs.length=rec.params.size)(H:exec (some lo) P rec.assign (zAk P lo rec.body K) (binds rec.params.toList vs rec.tmps.toList) [] h):Aw P (.func (.yield lo) #[] #[]) vs h K:=by
 intro er f xs C ty O S;unfold aI;refine aF rfl fun w Q=> ?_
 subst Q;have j:xs.map (ev er)=vs.toArray:=by apply lC.1;simpa using S
 have s:(execOp (ev er) {dst:=none,op:= .call ⟨.value f,xs,C⟩,type:=ty,pos:= "",after:= #[],guard:=none}).run P w= .ok (.round lo rec.fn ((rec.params.zip vs.toArray).foldl (fun tmps (x:Tmp×Value)=>tmps.setIfInBounds x.1 x.2) rec.tmps) rec.assign rec.body) w:=by
  have:=Mo (P:=P) hr (args:=vs.toArray) (by simpa using hsz);simp only[execOp,resolve,O,Deferred.ofValue,invoke,fw,gL,dL,j,cZ,this]
 rw[s];refine⟨Eng.Rest.refl w,roundIn_of_wpIn trivial ?_⟩;have B:=dI _ _ _ _ _ H;unfold WP at B;have B:=B w rfl;have E:(binds rec.params.toList vs rec.tmps.toList).toArray=((rec.params.zip vs.toArray).foldl (fun tmps (x:Tmp×Value)=>tmps.setIfInBounds x.1 x.2) rec.tmps):=by
  apply lC.1;rw[<-Array.foldl_toList,Bv,Gx];simp
 rw[<-E];refine wpIn_mono B ?_;rintro X V J ⟨⟨F,u,L,M,N⟩,D⟩;subst F;refine⟨_,Mk (P:=P) L M,?_⟩;have q:=dI _ _ _ _ _ N;unfold WP at q;have q:=q {J with heap:=J.heap.setIfInBounds lo (.loop {u with state:= .busy})} rfl;rw[dA]at q;refine wpIn_mono q ?_;rintro U W T ⟨⟨I,z,p⟩,m⟩;have g:Eng.Rest w T:=D.trans ⟨m.os,m.tape,m.output⟩;cases U with
 |normal=>exact⟨_,_,uT (P:=P) z none,_,rfl,p,g.trans ⟨rfl,rfl,rfl⟩⟩
 |ret=>exact⟨_,_,uT (P:=P) z (some .ret),_,rfl,p,g.trans ⟨rfl,rfl,rfl⟩⟩
 |exit i=>exact⟨_,_,uT (P:=P) z (some (.exit i)),_,rfl,p,g.trans ⟨rfl,rfl,rfl⟩⟩
 |goto i=>exact⟨_,_,uT (P:=P) z (some (.goto i)),_,rfl,p,g.trans ⟨rfl,rfl,rfl⟩⟩
 |_=>exact p.elim
def mkD (r:Nat):Deferred:={target:= .collected r,args:= #[]}
def zA2 (l:Option Nat)(P:Program)(lo:Nat)(k:aj)(e:Env)(d:List Deferred)(h:Heap):Prop:=∃rec,h[lo]? =some (.loop rec)/\rec.state≠.busy/\(match rec.pending with
 |none=>k .normal e d (h.setIfInBounds lo (.loop {rec with state:= .exhausted}))
 |some j=>exec l P j k e d (h.setIfInBounds lo (.loop {rec with state:= .exhausted})))
theorem UA {gf:FuncId}(hf:ev e f= .func (.func gf) first caps)(H:∀fn:FuncId,ak P gf (first++ #[.func (.yield (h.size+1)) #[] #[]]++caps) ((h.push (.deferred (some []))).push (.loop {state:= .ready,pending:=none,fn,tmps:=e.toArray,params:=ps,assign:=a,body:=b,defers:=h.size}))
 (fun _ I=>zA2 none P (h.size+1) k e (mkD h.size::d) I)):WP none P (.rangeFunc f ps a b) k e d h:=by
 unfold WP;intro w L;subst L;refine wpIn_rangeFunc fun fn _=> ?_
 have m:=H fn;unfold ak at m;obtain⟨u,m⟩:=m;obtain⟨q,p⟩:∃q:World,q={w with heap:=(w.heap.push (.deferred (some []))).push (.loop {state:= .ready,pending:=none,fn,tmps:=e.toArray,params:=ps,assign:=a,body:=b,defers:=w.heap.size})}:=⟨_,rfl⟩;have z:=m q (by rw[p]);unfold gP at z;refine⟨w.heap.size+1,[mkD w.heap.size],q,⟨.fn (.func gf) caps,first++ #[.func (.yield (w.heap.size+1)) #[] #[]]⟩,q,gf,first++ #[.func (.yield (w.heap.size+1)) #[] #[]]++caps,q,?_,?_,fun _ _=>trivial,?_,fun J=>by simp[kU]at J,oV none ?_⟩
 .rw[p];exact Lu
 .have D:ev e (.const (.func (.yield (w.heap.size+1)) #[] #[]))= .func (.yield (w.heap.size+1)) #[] #[]:=rfl;rw[dY];simp only[resolve,hf,Deferred.ofValue,gL,List.map_toArray,pE,List.map_nil,D]
 .show(callFunc gf _).run P _=_;exact CE u _
 .refine Calls.mono z ?_;rintro Q E ⟨v,rfl,⟨rec,M,N,B⟩,g⟩;have g:Eng.Rest w E:=by rw[p]at g;exact⟨g.os,g.tape,g.output⟩
  refine⟨_,_,FM (P:=P) M N,?_⟩;cases hp:rec.pending with
  |none=>
   rw[hp]at B;exact⟨B,⟨g.os,g.tape,g.output⟩⟩
  |some j=>
   rw[hp]at B;have s:=dI _ _ _ _ _ B;unfold WP at s;rw[<-hp]at s;have s:=s {E with heap:=E.heap.setIfInBounds (w.heap.size+1) (.loop {rec with state:= .exhausted})} rfl;rw[hp]at s;refine wpIn_mono s ?_;rintro x O S ⟨F,C⟩;exact⟨F,g.trans ⟨C.os,C.tape,C.output⟩⟩
theorem iH {b:Frame}{a:Act}{k:List Item}{cs:List Frame}:Go.step P (lone (b.atR a (.code (.scope c)::k)) cs w)= .next (lone (b.atR a (.code c:: .inScope c::k)) cs w):=
 step_lone_go (by simp[stepG,stepG.exec,Frame.atR])
theorem Ao {b:Frame}{a:Act}{k:List Item}{cs:List Frame}:Go.step P (lone (b.atR a (.inScope c::k)) cs w)= .next (lone (b.atR a k) cs w):=
 step_lone_go (by simp[stepG,stepG.exec,Frame.atR])
theorem IU {F:Fence}{n:Nat}{Q:Exit->Act->World->Prop}{a:Act}(hc:c.wpIn F n P (fun x a w=>(∀i,x≠.goto i)/\Q x a w) a w):(Code.scope c).wpIn F n P Q a w:=by
 intro b k C B q u;have h0:(lone (b.atR a (.code (.scope c)::k)) C w).fenced P F:=fenced_calm q u rfl;obtain⟨e,m,p,j,g⟩:=hc b (.inScope c::k) C B q u;cases e with
 |normal=>exact⟨.normal,m,p,j.2,.head h0 iH (StepsIn.trans g (.one (fenced_calm q u rfl) Ao))⟩
 |exit id=>
  have D:exitTo id (.inScope c::k)=exitTo id k:=by simp[exitTo]
  exact⟨.exit id,m,p,j.2,fun E s=> .head h0 iH (g.1 E (by rw[D];exact s)),
   fun z s=>let⟨k₁,h1,h2⟩:=g.2 z (by rw[D];exact s);⟨k₁,h1,.head h0 iH h2⟩⟩
 |goto l=>exact absurd rfl (j.1 l)
 |ret=>exact⟨_,m,p,j.2,.of_steps (.one h0 iH) g⟩
 |panic ch=>exact⟨_,m,p,j.2,.of_steps (.one h0 iH) g⟩
 |outgrown=>exact⟨_,m,p,j.2,.of_steps (.one h0 iH) g⟩
theorem DU {gf:FuncId}(hf:ev e f= .func (.func gf) first caps)(H:∀R:Loop,R.state= .ready->R.pending=none->R.tmps=e.toArray->R.params=ps->R.assign=a->R.body=b->R.defers=h.size->
 ak P gf (first++ #[.func (.yield (h.size+1)) #[] #[]]++caps) ((h.push (.deferred (some []))).push (.loop R)) (fun _ h2=>zA2 none P (h.size+1) k e (mkD h.size::d) h2)):WP none P (.rangeFunc f ps a b) k e d h:=
 UA hf fun g=>H _ rfl rfl rfl rfl rfl rfl rfl
theorem Loop.back {R:Loop}(h1:R.state= .ready)(h2:R.pending=none):({({R with state:= .busy}:Loop)with state:= .ready,pending:=none}:Loop)=R:=by
 cases R;simp_all
def BA (k:aj):aj:=fun x e d h=>(∀i,x≠.goto i)/\k x e d h
theorem UE (H:exec l P c (BA k) e d h):WP l P (.scope c) k e d h:=by
 have m:=dI _ _ _ _ _ H;unfold WP at *;intro w q;refine IU (wpIn_mono (m w q) ?_);rintro x s u ⟨⟨g,j⟩,p⟩;exact⟨g,j,p⟩
theorem YU (H:exec l P c (BA k) e d h):exec l P (.scope c) k e d h:=by
 unfold exec;exact UE H
theorem Uo:BA k .normal e d h=k .normal e d h:=eqi (propext ⟨fun H=>H.2,fun H=>⟨fun _ g=>(by cases g),H⟩⟩)
theorem YA:BA k .ret e d h=k .ret e d h:=eqi (propext ⟨fun H=>H.2,fun H=>⟨fun _ g=>(by cases g),H⟩⟩)
theorem XA {i:Nat}:BA k (.exit i) e d h=k (.exit i) e d h:=eqi (propext ⟨fun H=>H.2,fun H=>⟨fun _ g=>(by cases g),H⟩⟩)
theorem zBD (hr:h[r]? =some (.deferred (some [])))(H:jl P rs e [] K (h.setIfInBounds r (.deferred none))):oO P rs e [mkD r] h K:=by
 unfold oO;exact⟨⟨r,rfl,hr,trivial⟩,H⟩
theorem yT {body:Code}(hr:h[lo]? =some (.loop rec))(hs:rec.state= .ready)(H:exec (some lo) P body (zAs lo K) e d (h.setIfInBounds lo (.loop {rec with state:= .busy}))):zAk P lo body K .normal e d h:=
 ⟨rfl,rec,hr,hs,H⟩
theorem Upd.set {b:Nat}:Upd h (h.setIfInBounds b o) b:=⟨by simp,fun j g=>Array.getElem?_setIfInBounds_ne (Ne.symm g)⟩
theorem mE {b:Nat}(hb:b<h.size):(h.setIfInBounds b o)[b]? =some o:=by simp[hb]
def zA4 (P:Program)(v:Value)(F:Heap->Prop)(xss:List (List Value)):Prop:=
 ∃q first caps,v= .func (.func q) first caps/\∀(lo:Nat) (h0:Heap) (J:Nat->Heap->Prop) (E:Heap->Prop),(∀i h',J i h'->F h')->J 0 h0->
  (∀i h' vs,xss[i]? =some vs->J i h'->Aw P (.func (.yield lo) #[] #[]) vs h' (fun v h''=>(v= .bool true/\J (i+1) h'')\/(v= .bool false/\E h'')))->
  ak P q (first++ #[.func (.yield lo) #[] #[]]++caps) h0 (fun _ h'=>J xss.length h'\/E h')
def U9 (lo:Nat)(o:Obj)(K:Heap->Prop)(Br:Code->Heap->Prop):aj:=fun x _ _ h=>h[lo]? =some o/\match x with
 | .normal=>K h
 | .ret=>Br .ret h
 | .exit i=>Br (.exit i) h
 |_=>False
def Yj (P:Program)(lo:Nat)(o:Obj)(b:Code)(K:Heap->Prop)(Br:Code->Heap->Prop):aj:=fun x e d h=>x= .normal/\h[lo]? =some o/\
 ∀h2 o2,Upd h h2 lo->h2[lo]? =some o2->exec (some lo) P b (U9 lo o2 K Br) e d h2
theorem Xj {K:Heap->Prop}:U9 lo o K Br .normal e d h=(h[lo]? =some o/\K h):=eqi rfl
theorem XG {K:Heap->Prop}:Yj P lo o b K Br .normal e d h=(h[lo]? =some o/\
 ∀h2 o2,Upd h h2 lo->h2[lo]? =some o2->exec (some lo) P b (U9 lo o2 K Br) e d h2):=eqi (propext ⟨fun H=>H.2,fun H=>⟨rfl,H⟩⟩)
theorem Zp {F:Heap->Prop}{xss:List (List Value)}(hf:ev e f=v)(hseq:zA4 P v F xss)(Inv:Nat->Heap->Prop)(Br:Code->Heap->Prop)(hps:∀vs∈xss,vs.length=ps.size)(hext:∀i h',Inv i h'->F h')(hupd:∀i h1 h2,Inv i h1->Upd h1 h2 (h.size+1)->Inv i h2)(bupd:∀j h1 h2,Br j h1->Upd h1 h2 (h.size+1)->Br j h2)(start:∀h',Ext h h'->h'[h.size]? =some (.deferred (some []))->h'.size=h.size+2->Inv 0 h')(round:∀i h' vs o,xss[i]? =some vs->Inv i h'->h'[h.size+1]? =some o->exec (some (h.size+1)) P a (Yj P (h.size+1) o b (Inv (i+1)) Br) (binds ps.toList vs e) [] h')(fin:∀h',Inv xss.length h'->k .normal e (mkD h.size::d) h')(brk:∀j h',Br j h'->exec none P j k e (mkD h.size::d) h'):WP none P (.rangeFunc f ps a b) k e d h:=by
 obtain⟨q,first,caps,rfl,S⟩:=hseq;refine DU hf ?_;intro R z I L J M N T;have E:(h.push (.deferred (some []))).size=h.size+1:=by simp
 refine ak.mono (S (h.size+1) _ (fun i h'=>Inv i h'/\h'[h.size+1]? =some (.loop R)) (fun h'=>∃(rec:Loop) (j:Code),h'[h.size+1]? =some (.loop rec)/\rec.state= .done/\rec.pending=some j/\Br j h') (fun i h' H=>hext i h' H.1) ?_ ?_) ?_
 .refine⟨start _ (((Ext.refl h).push _).push _) (Jy jD) (by simp),?_⟩;have:=jD (h:=h.push (.deferred (some []))) (o:= .loop R);rwa[E]at this
 .rintro i h' vs s ⟨B,m⟩;refine yZ m (by rw[J];exact hps _ (kS s)) ?_;rw[L,J,M,N,eF];refine eX a ?_ _ _ _ (round i h' vs _ s B m);rintro x W U h2 ⟨rfl,p,H⟩;refine yT p z ?_;refine eX b ?_ _ _ _ (H _ _ Upd.set (mE (bA p)));rintro x X V O ⟨g,u⟩;cases x with
  |normal=>
   refine⟨_,g,?_⟩;refine .inl ⟨rfl,hupd _ _ _ u Upd.set,?_⟩;show(O.setIfInBounds _ _)[_]? =_;rw[mE (bA g),Loop.back z I]
  |ret=>
   refine⟨_,g,?_⟩;exact .inr ⟨rfl,_,_,mE (bA g),rfl,rfl,bupd _ _ _ u Upd.set⟩
  |exit j=>
   refine⟨_,g,?_⟩;exact .inr ⟨rfl,_,_,mE (bA g),rfl,rfl,bupd _ _ _ u Upd.set⟩
  |_=>exact u.elim
 .rintro v h' (⟨B,m⟩|⟨rec,j,m,D,C,Q⟩)
  .refine⟨_,m,by rw[z];decide,?_⟩;rw[I];exact fin _ (hupd _ _ _ B Upd.set)
  .refine⟨_,m,by rw[D];decide,?_⟩;rw[C];exact brk _ _ (bupd _ _ _ Q Upd.set)
end
end yields
end Go.Eng
namespace Go.Eng
open Go
section yields
variable {P:Program}{l:Option Nat}{h:Heap}{e:Env}{d:List Deferred}{k:aj}
def Yc (P:Program)(v:Value)(F:Heap->Prop)(xss:List (List Value)):Prop:=
 ∃q first caps,v= .func (.func q) first caps/\∀(lo:Nat) (h0:Heap) (J:Nat->Heap->Prop) (E:Heap->Prop),(∀i h',J i h'->F h')->(∀i h1 h2,J i h1->Ext h1 h2->J i h2)->J 0 h0->
  (∀i h' vs,xss[i]? =some vs->J i h'->Aw P (.func (.yield lo) #[] #[]) vs h' (fun v h''=>(v= .bool true/\J (i+1) h'')\/(v= .bool false/\E h'')))->
  ak P q (first++ #[.func (.yield lo) #[] #[]]++caps) h0 (fun _ h'=>J xss.length h'\/E h')
theorem zAF {f:Operand}{ps:Array Tmp}{a b:Code}{v:Value}{F:Heap->Prop}{xss:List (List Value)}(hf:ev e f=v)(hseq:Yc P v F xss)(Inv:Nat->Heap->Prop)(Br:Code->Heap->Prop)
 (hps:∀vs∈xss,vs.length=ps.size)
 (hext:∀i h',Inv i h'->F h')
 (hpush:∀i h1 h2,Inv i h1->Ext h1 h2->Inv i h2)
 (hupd:∀i h1 h2,Inv i h1->Upd h1 h2 (h.size+1)->Inv i h2) (bupd:∀j h1 h2,Br j h1->Upd h1 h2 (h.size+1)->Br j h2)
 (start:∀h',Ext h h'->h'[h.size]? =some (.deferred (some []))->h'.size=h.size+2->Inv 0 h')
 (round:∀i h' vs o,xss[i]? =some vs->Inv i h'->h'[h.size+1]? =some o->exec (some (h.size+1)) P a (Yj P (h.size+1) o b (Inv (i+1)) Br) (binds ps.toList vs e) [] h')
 (fin:∀h',Inv xss.length h'->k .normal e (mkD h.size::d) h')
 (brk:∀j h',Br j h'->exec none P j k e (mkD h.size::d) h'):WP none P (.rangeFunc f ps a b) k e d h:=by
 obtain⟨q,first,caps,rfl,S⟩:=hseq;refine DU hf ?_;intro R z I L J M N T;have E:(h.push (.deferred (some []))).size=h.size+1:=by simp
 refine ak.mono (S (h.size+1) _ (fun i h'=>Inv i h'/\h'[h.size+1]? =some (.loop R)) (fun h'=>∃(rec:Loop) (j:Code),h'[h.size+1]? =some (.loop rec)/\rec.state= .done/\rec.pending=some j/\Br j h') (fun i h' H=>hext i h' H.1) (fun i h1 h2 H x=>⟨hpush _ _ _ H.1 x,x.get H.2⟩) ?_ ?_) ?_
 .refine⟨start _ (((Ext.refl h).push _).push _) (Jy jD) (by simp),?_⟩;have:=jD (h:=h.push (.deferred (some []))) (o:= .loop R);rwa[E]at this
 .rintro i h' vs s ⟨B,m⟩;refine yZ m (by rw[J];exact hps _ (kS s)) ?_;rw[L,J,M,N,eF];refine eX a ?_ _ _ _ (round i h' vs _ s B m);rintro x W U h2 ⟨rfl,p,H⟩;refine yT p z ?_;refine eX b ?_ _ _ _ (H _ _ Upd.set (mE (bA p)));rintro x X V O ⟨g,u⟩;cases x with
  |normal=>
   refine⟨_,g,?_⟩;refine .inl ⟨rfl,hupd _ _ _ u Upd.set,?_⟩;show(O.setIfInBounds _ _)[_]? =_;rw[mE (bA g),Loop.back z I]
  |ret=>
   refine⟨_,g,?_⟩;exact .inr ⟨rfl,_,_,mE (bA g),rfl,rfl,bupd _ _ _ u Upd.set⟩
  |exit j=>
   refine⟨_,g,?_⟩;exact .inr ⟨rfl,_,_,mE (bA g),rfl,rfl,bupd _ _ _ u Upd.set⟩
  |_=>exact u.elim
 .rintro v h' (⟨B,m⟩|⟨rec,j,m,D,C,Q⟩)
  .refine⟨_,m,by rw[z];decide,?_⟩;rw[I];exact fin _ (hupd _ _ _ B Upd.set)
  .refine⟨_,m,by rw[D];decide,?_⟩;rw[C];exact brk _ _ (bupd _ _ _ Q Upd.set)
end yields
end Go.Eng
namespace Go.Proofs.YtejmkibjpaoahaaGreatDoor
open Go Go.Proofs Go.Eng Tab
section
variable {es:List En}{i:Nat}{who:Int}
set_option maxHeartbeats 1000000
def zC0:=(aF (aF (aF (aF @zD2 @zH0) (aF @zFS @zPb)) (aF (aF @zGn @zIJ) (aF @zFv (aF @zEt @zEu)))) (aF (aF (aF @zDX @zHd) (aF @zDx (aF @zQY @sz3))) (aF (aF @zLN @zEl) (aF @zRJ (aF @zEj @Tryz.underlying33)))))
def touch (who:Int)(es:List En)(i:Nat):Bool:=match es[i]? with
 |some e=>decide (e.f=who)||decide (e.t=who)
 |none=>false
def zEF (who:Int)(es:List En)(n:Nat):List Nat:=(kM n).filter (touch who es)
def zHM (es:List En)(l:List Nat):List (List Value):=l.map fun i:Nat=>[.int .i64 i,.agg (enV (es.getD i ⟨0,0,0,0⟩)).toArray]
theorem zM0 (h:touch who es i=true):zEF who es (i+1)=zEF who es i++[i]:=by
 simp[zEF,mD,eQ,h]
theorem zN7 (h:touch who es i=false):zEF who es (i+1)=zEF who es i:=by
 simp[zEF,mD,eQ,h]
theorem zN5 {n:Nat}(hi:i<n)(h:touch who es i=true):(zEF who es n)[(zEF who es i).length]? =some i:=by
 obtain⟨m,rfl⟩:∃m,n=i+(m+1):=⟨n-i-1,by omega⟩;have g:zEF who es (i+(m+1))=zEF who es i++(i::((kM m).map (fun j=>i+(j+1))).filter (touch who es)):=by
  rw[zEF,zEF,List.range_add,eQ,List.range_succ_eq_map,pE,List.filter_cons_of_pos (by simpa using h)];simp[List.map_map,Function.comp_def]
 rw[g,List.getElem?_append_right (kz _),Nat.sub_self];rfl
theorem zM2 (lo b1 b2 g0:Nat)(acc cl who:Int)(a:Option Addr)(n c:Nat)(es:List En)(h:Eng.Heap)(hn:n=es.length)(hl:n<=20)(J:Nat->Eng.Heap->Prop)(E:Eng.Heap->Prop)
 (hF:∀i h',J i h'->Row h' a (zDA es)/\h'[b1]? =some (.cells #[.pointer (some ⟨g0,0,none⟩)] 92)/\h'[b2]? =some (.cells #[.int .i64 who] 3)/\h'[g0]? =some (.cells #[.int .i64 acc,.int .i64 cl,.slice a n c] 181))
 (hX:∀i h1 h2,J i h1->Ext h1 h2->J i h2) (h0:J 0 h)
 (step:∀i h' vs,(zHM es (zEF who es n))[i]? =some vs->J i h'->Aw aD (.func (.yield lo) #[] #[]) vs h' (fun v h''=>(v= .bool true/\J (i+1) h'')\/(v= .bool false/\E h''))):
 ak aD 108 (#[]++ #[.func (.yield lo) #[] #[]]++ #[.pointer (some ⟨b1,0,none⟩),.pointer (some ⟨b2,0,none⟩)]) h (fun _ h'=>J (zEF who es n).length h'\/E h'):=by
 simp only[eP,cZ,eB,kD,kL];obtain⟨U,V,W,X⟩:=hF 0 h h0
 (refine Rm Tryz.func108 rfl zOX ?_;simp only[Tryz.ntmps108,Tryz.results108,coreS,U1,splice,aC,af,seval,zC0])
 simp only[V,W,X,coreS,aC,af,seval,zC0];refine zAi [4,5,12,13,14,15,16,17,18,19,20,21,22,23,24,25,26,27,28,29,30,31,32,33,34] (fun g h'=>∃i:Nat,i<=n/\g 12= .int .i64 i/\J (zEF who es i).length h') (fun g _=>match g 12 with| .int _ m=>n-m.toNat|_=>0) ⟨0,by omega,rfl,h0⟩ ?_;rintro g h' ⟨i,T,Q,F⟩;obtain⟨Y,Z,D,r4⟩:=hF _ _ F;by_cases S:i<es.length
 .have N:a.isSome=true:=U.isSome (by rw[zDB];omega);have I:=zLH Y S;simp only[Q,I,Z,D,r4,coreS,aC,af,seval,zC0];refine⟨fun _=> ?_,fun j=>absurd j (by omega)⟩;refine⟨by omega,N,?_⟩;have s:¬b2=h'.size:=by have:=bA D;omega
  have j:es[i]? =some es[i]:=aS S;have O:touch who es i=true->∀M,M=h'.push (.cells #[.int .i64 es[i].d,.int .i64 es[i].f,.int .i64 es[i].t,.int .i64 es[i].a] 39)->Aw aD (.func (.yield lo) #[] #[]) [.int .i64 i,.agg #[.int .i64 es[i].d,.int .i64 es[i].f,.int .i64 es[i].t,.int .i64 es[i].a]] M (fun v h''=>(v= .bool true/\J ((zEF who es i).length+1) h'')\/(v= .bool false/\E h'')):=by
   rintro u M rfl;refine step _ _ _ ?_ (hX _ _ _ F ((Ext.refl h').push _));rw[zHM,List.getElem?_map,zN5 (by omega) u];simp[eD,j,enV]
  have C:∀{b:Bool},touch who es i=b->(zEF who es (i+1)).length=(zEF who es i).length+(if b then 1 else 0):=by
   rintro b rfl;cases hb:touch who es i with
   |true=>rw[zM0 hb];simp
   |false=>rw[zN7 hb];simp
  by_cases B:es[i].f=who
  .have u:touch who es i=true:=by simp[touch,j,B]
   have q:=C u;simp only[B,s,if_false,D,decide_true,coreS,U1,splice,aC,af,seval,zC0];rw[Xg];refine Aw.run (O u _ (by rw[B])) rfl (by simp[B];exact⟨rfl,rfl⟩) ?_;rintro v h2 (⟨rfl,z⟩|⟨rfl,H⟩)
   .simp only[bz,coreS,aC,af,seval,zC0];refine⟨by rw[zBS];omega,Zr (by kernel_rfl) ⟨i+1,by omega,rfl,by rw[q];exact z⟩ ?_⟩;show n-((i:Int)+1).toNat<n-(i:Int).toNat;omega
   .simp only[aZ,coreS,aC,af,seval,zC0];exact .inr H
  .by_cases p:es[i].t=who
   .have u:touch who es i=true:=by simp[touch,j,p]
    have q:=C u;simp only[B,p,s,if_false,D,decide_true,decide_false,coreS,U1,splice,aC,af,seval,zC0];rw[Xg];refine Aw.run (O u _ (by rw[p])) rfl (by simp[p];exact⟨rfl,rfl⟩) ?_;rintro v h2 (⟨rfl,z⟩|⟨rfl,H⟩)
    .simp only[bz,coreS,aC,af,seval,zC0];refine⟨by rw[zBS];omega,Zr (by kernel_rfl) ⟨i+1,by omega,rfl,by rw[q];exact z⟩ ?_⟩;show n-((i:Int)+1).toNat<n-(i:Int).toNat;omega
    .simp only[aZ,coreS,aC,af,seval,zC0];exact .inr H
   .have u:touch who es i=false:=by simp[touch,j,p,B]
    have q:=C u;simp only[B,p,s,if_false,D,decide_false,coreS,U1,splice,aC,af,seval,zC0];refine⟨by rw[zBS];omega,Zr (by kernel_rfl) ⟨i+1,by omega,rfl,by rw[q];exact hX _ _ _ F ((Ext.refl h').push _)⟩ ?_⟩;show n-((i:Int)+1).toNat<n-(i:Int).toNat;omega
 .obtain rfl:i=n:=by omega
  simp only[Q,coreS,aC,af,seval,zC0];exact⟨fun L=>absurd L (by omega),fun _=> .inl F⟩
end
end Go.Proofs.YtejmkibjpaoahaaGreatDoor
