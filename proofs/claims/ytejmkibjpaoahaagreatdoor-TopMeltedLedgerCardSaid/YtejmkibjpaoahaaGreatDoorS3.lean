/- Lemmas. No condition. -/
import Derived.Test.YtejmkibjpaoahaaGreatDoorS2
import Derived.Test.YtejmkibjpaoahaaGreatDoorShF
import Derived.Lib.ConvBytes
import Derived.Laws.BytesString
import Derived.Lib.ItoaNum
import Derived.Lib.Atoi
import Derived.Lib.Split
import Derived.Lib.LaidTab
import Derived.Lib.ByteType
open Go.Value renaming oneCell'→af,cells→aC,int→lN,string→zR
open And renaming intro→aD
open Go.Proofs.Tryz renaming prog→aF,underlying33→dM,underlying9→ed,underlying5→gY,underlying25→rA,underlying131→sF,underlying139→Ic,underlying29→zaj,underlying71→zal
open List renaming getElem?_eq_getElem→aY,length_cons→aZ,getD_eq_getElem?_getD→bn,length_nil→bv,take_of_length_le→bD,nil_append→bK,append_nil→bL,replicate→bQ,getElem_mem→bS,cons_append→cz,length_append→cK,mem_cons_of_mem→cZ,mem_cons_self→dn,length_map→dC,drop→dG,take→dL,all_eq_true→dS,mem_cons→ek,mem_of_mem_take→eB,length_take→eD,map_append→eF,mem_singleton→fe,mem_map→gL,map_cons→ib,not_mem_nil→kY,getElem?_append_right→lh,map_congr_left→lC,drop_eq_getElem_cons→lG,eq_nil_of_length_eq_zero→mD,length_drop→mI,take_add_one→mM,mem_append→ol,map_map→ql,dropLast_concat_getLast→rV,flatMap_cons→uA,drop_zero→ww,getElem?_eq_some_iff→wE,length_pos_iff→xK,map_nil→xW,length_singleton→zM,count_le_length→AL,length_dropLast→Bd,map_id→EE,take_left'→FN,length→Ma,getElem_map→MV,mem_reverse→NR,count_cons_of_ne→Oo,count_cons_self→SG,mem_iff_getElem→SH,sum_cons→Ze,intercalate→zax,take_length→zaz,head?_cons→zaH
open Int renaming toNat_natCast→bi,tmod_nonneg→zaF
open Bool renaming not_true→bE,not_false→bP,and_eq_true→bR,false_eq_true→kC,eq_false_iff→zl,true_and→XF
open Nat renaming le_refl→bM,add_sub_cancel→HY,add_comm→OB,strongRecOn→OC,zero_add→OD
open Array renaming length_toList→fo,getD_eq_getD_getElem?→kS,getElem?_eq_getElem→qz,toList_inj→zS,mem_toList_iff→SF
open Go.Lib renaming byteCells→qf,indexByte→BB,lastIndexByte→IY,bytesWorld_at_old→Ol,atoi→Rt,decNat→RF,join→Sn,bytesWorld_size→WS,trimS→XX,itoa→zaB,decFrom→zaG,bytesCells→zaQ,countByte→zba,decDigits→zbb
open UInt8 renaming ofNat→qO,toNat_inj→GA,toNat_ofNat'→zaf
open Option renaming getD_some→rO
open ByteArray renaming size_append→Od,ext→XW
set_option linter.unusedSimpArgs false
set_option linter.unusedVariables false
set_option linter.defProp false
section
namespace Go.Proofs.YtejmkibjpaoahaaGreatDoor
open Go Go.Proofs Go.Eng Tab
set_option maxRecDepth 100000
set_option linter.unusedSimpArgs false
set_option linter.unusedVariables false
set_option maxHeartbeats 1000000
set_option linter.defProp false
def zO7:=(aD (aD (aD (aD @zUh @zQL) (aD @zRZ (aD @by2 @by3))) (aD (aD @zQb @zVK) (aD @zP0 (aD @zPs @zR9)))) (aD (aD (aD @zWs @sz2) (aD @sz3 (aD @zTh @zUP))) (aD (aD @zQv @zRm) (aD @Tryz.underlying29 (aD @Tryz.underlying48 @Tryz.underlying103)))))
noncomputable def zSg (acc cl:Int)(es:List En)(day:Int):List Int:=if opn acc cl es [day]=0 then zOu acc.toNat es day else[]
theorem zR0 (acc cl:Int)(a:Option Addr)(n c:Nat)(es:List En)(day:Int)(h:Eng.Heap)(hr:Row h a (zOS es))(hn:n=es.length)(hl:n<=1000000):
 ak aF 15 #[.agg #[.int .i64 acc,.int .i64 cl,.slice a n c],.int .i64 day] h (fun v h'=>(∃b m k,v= .tuple #[.slice b m k,.int .i64 (opn acc cl es [day])]/\eu h' b m (zSg acc cl es day)/\m<=8)/\Ext h h'):=by
 (refine Rm Tryz.func15 rfl zYZ ?_;simp only[Tryz.ntmps15,Tryz.results15,coreS,U1,splice,aC,af,Nat.reduceAdd,Nat.reduceSub,Nat.reduceMul,Nat.reduceLeDiff,Int.reduceEq,Nat.reduceEqDiff,zO7])
 refine ak.mono (zXz acc cl a n c es _ 1 1 [day] _ ((hr.push _).push _) hn hl (zPN pn1) (by omega)) ?_;rintro v h1 ⟨x1,H⟩;have hb1:=x1.get pn0;have y1:=x1.zBe.zBe;rcases H with⟨e0,g,rfl,hg,hsz⟩|⟨e0,rfl⟩
 .obtain⟨hc,hd⟩:=zYC e0;obtain⟨ha,hl2,hcl,hok,hso,hft⟩:=zQx hc;simp only[coreS,aC,af,Nat.reduceAdd,Nat.reduceSub,Nat.reduceMul,Nat.reduceLeDiff,Int.reduceEq,Nat.reduceEqDiff,zO7];refine ak.mono (zTU g acc cl a n c es day h1 hg (hr.ext y1) hn (by omega) hok ha.2 hft) ?_;rintro v h2 ⟨rfl,x2⟩;obtain⟨b0,b1,b2,b3,b4,b5,b6,b7,h8⟩:∃b0 b1 b2 b3 b4 b5 b6 b7:Int,zOu 8 es day=[b0,b1,b2,b3,b4,b5,b6,b7]:=⟨_,_,_,_,_,_,_,_,rfl⟩;have h9:(ints (zOu 8 es day)).toArray= #[.int .i64 b0,.int .i64 b1,.int .i64 b2,.int .i64 b3,.int .i64 b4,.int .i64 b5,.int .i64 b6,.int .i64 b7]:=by rw[h8];rfl
  have hb2:=x2.get hb1;rw[h9];have hlt2:=bA hb2;have hne:¬(h.size=h2.size):=by omega
  simp only[hne,if_false,hb2,coreS,U1,splice,aC,af,Nat.reduceAdd,Nat.reduceSub,Nat.reduceMul,Nat.reduceLeDiff,Int.reduceEq,Nat.reduceEqDiff,zO7];obtain⟨k,rfl⟩:∃k:Nat,acc=k:=⟨acc.toNat,by omega⟩;have hk8:k<=8:=by omega
  have e8:(((8:Nat):Int)-((0:Nat):Int)).toNat=8:=rfl;simp only[ite_self,e8,bi];refine⟨by omega,by omega,by omega,by omega,by omega,by omega,by omega,by omega,?_⟩;have hI:=eu.block (xs:=zOu 8 es day) (by rw[h9];exact pn0 (h:=h2) (o:= .cells #[.int .i64 b0,.int .i64 b1,.int .i64 b2,.int .i64 b3,.int .i64 b4,.int .i64 b5,.int .i64 b6,.int .i64 b7] 103) (o':= .cells (bQ k [lN .i64 0]).flatten.toArray 2));rw[zOX]at hI;refine zZC rfl rfl pn1 (by simp) hI fun h3 g3 u3=> ?_
  rw[zUl es day hk8]at g3;have e9:splice (bQ k [lN .i64 0]).flatten 0 (ints (zOu k es day))=ints (zOu k es day):=by
   simp[splice,aR,zOX]
  rw[e9]at g3;simp only[coreS,aC,af,Nat.reduceAdd,Nat.reduceSub,Nat.reduceMul,Nat.reduceLeDiff,Int.reduceEq,Nat.reduceEqDiff,zO7];refine⟨⟨_,k,k,by rw[e0],?_,by omega⟩,u3.ext (((y1.trans x2).push _).push _) (by have:=x2.size;have:=y1.size;omega)⟩;rw[zSg,if_pos e0,bi];have:=eu.block g3;rwa[zOX]at this
 .simp only[e0,decide_false,bP,coreS,aC,af,Nat.reduceAdd,Nat.reduceSub,Nat.reduceMul,Nat.reduceLeDiff,Int.reduceEq,Nat.reduceEqDiff,zO7];exact⟨⟨_,_,_,rfl,by rw[zSg,if_neg e0];exact eu.nil _,by omega⟩,y1⟩
end Go.Proofs.YtejmkibjpaoahaaGreatDoor
end
section
namespace Go.Proofs.YtejmkibjpaoahaaGreatDoor
open Go Go.Proofs Go.Eng Go.Run Tab RL
set_option maxRecDepth 100000
set_option linter.unusedSimpArgs false
set_option linter.unusedVariables false
set_option linter.defProp false
set_option maxHeartbeats 4000000
set_option linter.defProp false
def zNy:=(aD (aD (aD @zPd (aD @zRZ @by2)) (aD (aD @zTr @zP0) (aD @zR9 @zVZ))) (aD (aD (aD @sz2 @zTh) (aD @zTi @Tryz.underlying3)) (aD (aD @Tryz.underlying5 @Tryz.underlying48) (aD @Tryz.underlying57 @Tryz.underlying58))))
def zPV:=(aD (aD (aD @zQ4 @zTs) (aD @zTt @zTu)) (aD (aD @zTv @zPK) (aD @zWq (aD @zQA @zPi))))
theorem zZE (e:En)(h:Eng.Heap):ak aF 11 #[.int .i64 e.d,.int .i64 e.f,.int .i64 e.t,.int .i64 e.a] h (fun v h'=>v= .agg #[.int .i64 e.d,.int .i64 e.f,.int .i64 e.t,.int .i64 e.a]/\Ext h h'):=by
 (refine Rm Tryz.func11 rfl zYX ?_;simp only[Tryz.ntmps11,Tryz.results11,coreS,U1,splice,aC,af,Nat.reduceAdd,Nat.reduceSub,Nat.reduceMul,Nat.reduceLeDiff,Int.reduceEq,Nat.reduceEqDiff,zPV])
 exact(Ext.refl h).push _
theorem zWW (wk:∀h,ak aF 7 #[] h (fun v h'=>v= .bool true/\Ext h h'))(a:Option Addr)(n c:Nat)(es:List En)(b:Option Addr)(m d:Nat)(o:List Int)(num:Int)(h:Eng.Heap)(hr:Row h a (zOS es))(hn:n=es.length)(hb:Row h b (ints o))(hm:o.length=2*m)(hnum:0<=num/\num<=255)
 (hfl:∀(a:Option Addr) (n c:Nat) (es:List En) (h1:Eng.Heap),Ext h h1->Row h1 a (zOS es)->n=es.length->n<=10->chk 2 0 es=0->ak aF 22 #[.agg #[.int .i64 2,.int .i64 0,.slice a n c]] h1 (fun v h2=>(∃g:ByteArray,v= .tuple #[.string g,.int .i64 0]/\∀h3,Ext h2 h3->ak aF 23 #[.string g] h3 (fun v h4=>(∃a4 n4 c4,v= .tuple #[.agg #[.int .i64 2,.int .i64 0,.slice a4 n4 c4],.int .i64 0]/\n4=es.length/\Row h4 a4 (zOS es))/\Ext h3 h4))/\Ext h1 h2)):
 ak aF 4 #[.slice a n c,.slice b m d,.int .u8 num] h (fun v h'=>v= .bool true/\Ext h h'):=by
 have works:∀(h':Eng.Heap) (K:Value->Eng.Heap->Prop),Ext h h'->(∀h'',Ext h h''->K (.bool true) h'')->ak aF 7 #[] h' K:=fun h' K x H=>ak.mono (wk h') fun v h'' q=>by
  obtain⟨rfl,x2⟩:=q;exact H _ (x.trans x2)
 (refine Rm Tryz.func4 rfl zZ9 ?_;simp only[Tryz.ntmps4,Tryz.results4,coreS,U1,splice,aC,af,Nat.reduceAdd,Nat.reduceSub,Nat.reduceMul,Nat.reduceLeDiff,Int.reduceEq,Nat.reduceEqDiff,zNy])
 refine⟨fun w1=> ?_,fun w1=>⟨fun w2=> ?_,fun w2=> ?_⟩⟩
 .refine works _ _ (Ext.refl h) fun h'' x=> ?_
  simp only[coreS,aC,af,Nat.reduceAdd,Nat.reduceSub,Nat.reduceMul,Nat.reduceLeDiff,Int.reduceEq,Nat.reduceEqDiff,zNy];exact x
 .refine works _ _ (Ext.refl h) fun h'' x=> ?_
  simp only[coreS,aC,af,Nat.reduceAdd,Nat.reduceSub,Nat.reduceMul,Nat.reduceLeDiff,Int.reduceEq,Nat.reduceEqDiff,zNy];exact x
 refine ak.mono (zSC a n c es b m d o h hr hn hb hm) ?_;rintro v h1 ⟨⟨r,rfl,hr1⟩,x1⟩;by_cases S:Sc es o m
 case neg=>
  have:¬r=0:=fun e=>S (hr1.1 e)
  simp only[this,decide_false,bP,coreS,aC,af,Nat.reduceAdd,Nat.reduceSub,Nat.reduceMul,Nat.reduceLeDiff,Int.reduceEq,Nat.reduceEqDiff,zNy];refine works _ _ x1 fun h'' x=> ?_
  simp only[coreS,aC,af,Nat.reduceAdd,Nat.reduceSub,Nat.reduceMul,Nat.reduceLeDiff,Int.reduceEq,Nat.reduceEqDiff,zNy];exact x
 rw[hr1.2 S];have hml:=S.len;have hRl:=S.rw.len;simp only[decide_true,bE,coreS,aC,af,Nat.reduceAdd,Nat.reduceSub,Nat.reduceMul,Nat.reduceLeDiff,Int.reduceEq,Nat.reduceEqDiff,zNy];refine ak.mono (zWa a n c es b m d o h1 (hr.ext x1) hn (hb.ext x1) hm S) ?_;rintro v h2 ⟨x2,⟨aw,cw,ws,rfl,Iw,T⟩|rfl⟩
 case inr=>
  simp only[decide_true,decide_false,bP,coreS,aC,af,Nat.reduceAdd,Nat.reduceSub,Nat.reduceMul,Nat.reduceLeDiff,Int.reduceEq,Nat.reduceEqDiff,zNy];refine works _ _ (x1.trans x2) fun h'' x=> ?_
  simp only[coreS,aC,af,Nat.reduceAdd,Nat.reduceSub,Nat.reduceMul,Nat.reduceLeDiff,Int.reduceEq,Nat.reduceEqDiff,zNy];exact x
 simp only[decide_true,bE,coreS,aC,af,Nat.reduceAdd,Nat.reduceSub,Nat.reduceMul,Nat.reduceLeDiff,Int.reduceEq,Nat.reduceEqDiff,zNy];have x02:=x1.trans x2;refine ak.mono (zV5 a n c es b m d o aw m cw ws h2 (hr.ext x02) hn (hb.ext x02) hm Iw rfl S T) ?_;rintro v h3 ⟨rfl,x3⟩;have x03:=x02.trans x3;simp only[splice,dL,dG,bK,cz,bL,aZ,bv,decide_true,bE,coreS,aC,af,Nat.reduceAdd,Nat.reduceSub,Nat.reduceMul,Nat.reduceLeDiff,Int.reduceEq,Nat.reduceEqDiff,zNy];refine Oy jD (by simp) fun h4 g4 u4=> ?_
 simp only[splice,dL,dG,bK,cz,bL,aZ,bv]at g4;have x4:Ext h3 h4:=u4.ext ((Ext.refl h3).push _) (bM _);have hl:=Iw.len;obtain⟨W,hW⟩:∃W:Nat->Int,W=fun j=>ws.getD j 0:=⟨_,rfl⟩
 simp only[coreS,aC,af,Nat.reduceAdd,Nat.reduceSub,Nat.reduceMul,Nat.reduceLeDiff,Int.reduceEq,Nat.reduceEqDiff,zNy];refine zAi [6,10,11,12,13,57,58,59,60,61,62,63,64,65,66,67,68,69,70,71,72,73,74,75,76,77,78,79,80,81,82,83,84,85,86,87,88,89,90,91,92,93,94,95,96] (fun e h'=>Ext h3 h'/\∃i:Nat,i<=n/\e 10= .int .i64 i/\∃aB cB,h'[h3.size]? =some (.cells #[.int .i64 2,.int .i64 0,.slice aB i cB] 35)/\Row h' aB (zOS (zOp W i))/\(∀j,j<i->1<=W j-W (j+1)/\W j-W (j+1)<=1000)/\∀p,aB=some p->p.block≠h3.size) (fun e _=>match e 10 with| .int _ q=>n-q.toNat|_=>0) ⟨x4,0,by omega,rfl,none,0,g4,.inl rfl,fun j hj=>by omega,fun p hp=>by cases hp⟩ ?_;rintro e5 h5 ⟨x5,i,hi5,he5,aB,cB,g5,RB,LB,NB⟩;have Iw5:=(Iw.ext x3).ext x5;simp only[he5,coreS,aC,af,Nat.reduceAdd,Nat.reduceSub,Nat.reduceMul,Nat.reduceLeDiff,Int.reduceEq,Nat.reduceEqDiff,zNy];refine⟨fun hlt=> ?_,fun hge=> ?_⟩
 .have k1:=Iw5.cell (j:=i) (by omega);have k2:=Iw5.cell (j:=i+1) (by omega);have sw:=Iw5.isSome (by omega);have t1:=T.1 i (by omega);have t2:=T.1 (i+1) (by omega);have s1:=S.all i (by omega);have s2:=S.all (i+1) (by omega);have ei:((i:Int)+1).toNat=i+1:=by omega
  refine zB9 (by kernel_rfl) zBp [(0,0),(1,0),(2,0),(3,0),(4,0),(5,0),(6,0),(7,0),(8,0),(9,0),(10,0)] (by kernel_rfl) rfl (by kernel_rfl) ?_;simp only[he5,ei,bi,k1,k2,Ye,coreS,aC,af,Nat.reduceAdd,Nat.reduceSub,Nat.reduceMul,Nat.reduceLeDiff,Int.reduceEq,Nat.reduceEqDiff,drawS,zNy];unfold isW at s1 s2;have t1':lo o i<=ws.getD i 0/\ws.getD i 0<=Go.Proofs.YtejmkibjpaoahaaGreatDoor.hi o i:=t1;have t2':lo o (i+1)<=ws.getD (i+1) 0/\ws.getD (i+1) 0<=Go.Proofs.YtejmkibjpaoahaaGreatDoor.hi o (i+1):=t2;have x05:=x03.trans x5;refine⟨by omega,sw,by rw[zBS];omega,by omega,sw,by rw[zBS];omega,fun q1=> ?_,fun q1=>⟨fun q2=> ?_,fun q2=> ?_⟩⟩
  .refine works _ _ x05 fun h'' x=> ?_
   simp only[coreS,aC,af,Nat.reduceAdd,Nat.reduceSub,Nat.reduceMul,Nat.reduceLeDiff,Int.reduceEq,Nat.reduceEqDiff,zNy];exact x
  .refine works _ _ x05 fun h'' x=> ?_
   simp only[coreS,aC,af,Nat.reduceAdd,Nat.reduceSub,Nat.reduceMul,Nat.reduceLeDiff,Int.reduceEq,Nat.reduceEqDiff,zNy];exact x
  have eW:ws.getD i 0-ws.getD (i+1) 0=W i-W (i+1):=by rw[hW]
  rw[eW]at q1 q2 ⊢;have HW:∀j,j<i+1->1<=W j-W (j+1)/\W j-W (j+1)<=1000:=fun j hj=>by
   by_cases hji:j<i
   .exact LB j hji
   .obtain rfl:j=i:=by omega
    omega
  obtain⟨en,hen⟩:∃en:En,en=⟨(i:Nat)+1,0,1,W i-W (i+1)⟩:=⟨_,rfl⟩;have hp0:pst 2 0 (zOp W i) en=0:=by rw[hen];exact zWZ (by omega) HW
  have he1:∀hh,ak aF 11 #[.int .i64 ((i:Int)+1),.int .i64 0,.int .i64 1,.int .i64 (W i-W (i+1))] hh (fun v h'=>v= .agg #[.int .i64 en.d,.int .i64 en.f,.int .i64 en.t,.int .i64 en.a]/\Ext hh h'):=fun hh=>by
   have:=zZE en hh;rw[hen]at this ⊢;exact this
  have hpost:∀hh,Ext h5 hh->ak aF 10 #[.agg #[.int .i64 2,.int .i64 0,.slice aB i cB],.agg #[.int .i64 en.d,.int .i64 en.f,.int .i64 en.t,.int .i64 en.a]] hh (fun v h'=>(∃a' c',v= .tuple #[.agg #[.int .i64 2,.int .i64 0,.slice a' (i+1:Nat) c'],.int .i64 0]/\Row h' a' (zOS (zOp W (i+1)))/\∀p,a'=some p->hh.size<=p.block)/\Ext hh h'):=fun hh xh=>by
   refine ak.mono (zYF 2 0 aB i cB (zOp W i) en hh (RB.ext xh) (by rw[zP1]) (by omega)) ?_;rintro v h' ⟨⟨a',n',c',rfl,hR,hn',hb'⟩,x'⟩;have e1:zS1 2 0 (zOp W i) en=2:=by rw[zS1,if_pos hp0]
   have e2:zS2 2 0 (zOp W i) en=0:=by rw[zS2,if_pos hp0]
   have e3:zQ2 2 0 (zOp W i) en=zOp W (i+1):=by rw[zQ2,if_pos hp0,hen,zWY]
   rw[e3]at hR hn';rw[zP1]at hn';subst hn';rw[e1,e2,hp0];exact⟨⟨a',c',rfl,hR,hb'⟩,x'⟩
  refine zBq [12,13,80,81,82,83,84,85,86,87,88] (fun e h'=>Ext h5 h'/\e 13= .int .i64 0/\∃q a' c',e 12= .pointer (some ⟨q,0,none⟩)/\h5.size<=q/\h'[q]? =some (.cells #[.int .i64 2,.int .i64 0,.slice a' (i+1:Nat) c'] 35)/\Row h' a' (zOS (zOp W (i+1)))/\∀p,a'=some p->h5.size<=p.block) ?_ ?_
  .refine zB7 (by kernel_rfl) zBc (.quiet 0 (.quiet 1 (.quiet 2 (.quiet 3 (.yo 4 9 true true (.yo 5 9 true true (.quiet 6 (.quiet 7 (.pure 8 (.keep 9 (.one 10 (.quiet 11 (.fin))))))) (.keep 5 (.quiet 6 (.quiet 7 (.pure 8 (.one 10 (.quiet 11 (.fin)))))))) (.keep 4 (.keep 5 (.quiet 6 (.quiet 7 (.pure 8 (.one 10 (.quiet 11 (.fin))))))))))))) (by kernel_rfl) rfl (by kernel_rfl) ?_;simp only[g5,he5,coreS,aC,af,Nat.reduceAdd,Nat.reduceSub,Nat.reduceMul,Nat.reduceLeDiff,Int.reduceEq,Nat.reduceEqDiff,drawS,treeS,zNy];refine⟨by rw[zBS];omega,?_⟩;refine Xh fun hA xA=>⟨?_,?_⟩
   .simp only[coreS,aC,af,Nat.reduceAdd,Nat.reduceSub,Nat.reduceMul,Nat.reduceLeDiff,Int.reduceEq,Nat.reduceEqDiff,drawS,treeS,zNy];refine ak.mono (he1 hA) ?_;rintro v hB ⟨rfl,xB⟩;refine⟨xB,?_⟩;refine Xh fun hC xC=>⟨?_,?_⟩
    .simp only[coreS,aC,af,Nat.reduceAdd,Nat.reduceSub,Nat.reduceMul,Nat.reduceLeDiff,Int.reduceEq,Nat.reduceEqDiff,drawS,treeS,zNy];refine ak.mono (hpost hC ((xA.trans xB).trans xC)) ?_;rintro v hD ⟨⟨a',c',rfl,R',N'⟩,xD⟩;refine⟨xD,?_⟩;simp only[coreS,aC,af,Nat.reduceAdd,Nat.reduceSub,Nat.reduceMul,Nat.reduceLeDiff,Int.reduceEq,Nat.reduceEqDiff,drawS,treeS,zNy];refine YD fun hE xE=> ?_
     simp only[coreS,aC,af,Nat.reduceAdd,Nat.reduceSub,Nat.reduceMul,Nat.reduceLeDiff,Int.reduceEq,Nat.reduceEqDiff,drawS,treeS,zNy];refine⟨(Ext.refl hE).push _,?_⟩;refine Zk fun hF xF=> ?_
     have qF:=xF.get jD;simp only[qF,coreS,aC,af,Nat.reduceAdd,Nat.reduceSub,Nat.reduceMul,Nat.reduceLeDiff,Int.reduceEq,Nat.reduceEqDiff,drawS,treeS,zNy];refine Oy qF (by simp) fun hG gG uG=> ?_
     simp only[splice,dL,dG,bK,cz,bL,aZ,bv]at gG;refine zAN fun hH xH=> ?_
     have x5E:=((xA.trans xB).trans xC).trans (xD.trans xE);have sE:=x5E.size;simp only[Gd];have s0:=((xA.trans xB).trans xC).size;exact zBX (by kernel_rfl) ⟨(uG.ext (x5E.trans xF.zBe) (by omega)).trans xH,rfl,hE.size,a',c',rfl,sE,xH.get gG,R'.ext ((uG.ext (xE.trans xF.zBe) xE.size).trans xH),fun p hp=>by have:=N' p hp;omega⟩
    .simp only[coreS,aC,af,Nat.reduceAdd,Nat.reduceSub,Nat.reduceMul,Nat.reduceLeDiff,Int.reduceEq,Nat.reduceEqDiff,drawS,treeS,zNy];refine⟨(Ext.refl hC).push _,?_⟩;refine YD fun hD xD=> ?_
     simp only[coreS,aC,af,Nat.reduceAdd,Nat.reduceSub,Nat.reduceMul,Nat.reduceLeDiff,Int.reduceEq,Nat.reduceEqDiff,drawS,treeS,zNy];have x5D:=((xA.trans xB).trans xC).trans xD.zBe;refine ak.mono (hpost hD x5D) ?_;rintro v hE ⟨⟨a',c',rfl,R',N'⟩,xE⟩;refine⟨xE,?_⟩;simp only[coreS,aC,af,Nat.reduceAdd,Nat.reduceSub,Nat.reduceMul,Nat.reduceLeDiff,Int.reduceEq,Nat.reduceEqDiff,drawS,treeS,zNy];refine Zk fun hF xF=> ?_
     have qF:=xF.get (xE.get (xD.get jD));simp only[qF,coreS,aC,af,Nat.reduceAdd,Nat.reduceSub,Nat.reduceMul,Nat.reduceLeDiff,Int.reduceEq,Nat.reduceEqDiff,drawS,treeS,zNy];refine Oy qF (by simp) fun hG gG uG=> ?_
     simp only[splice,dL,dG,bK,cz,bL,aZ,bv]at gG;refine zAN fun hH xH=> ?_
     have s0:=((xA.trans xB).trans xC).size;have s1:=xD.size;rw[Rh]at s1;simp only[Gd];exact zBX (by kernel_rfl) ⟨(uG.ext ((x5D.trans xE).trans xF) (by omega)).trans xH,rfl,hC.size,a',c',rfl,s0,xH.get gG,(zPX (R'.ext xF) uG fun p hp=>by have:=N' p hp;omega).ext xH,fun p hp=>by have:=N' p hp;omega⟩
   .simp only[coreS,aC,af,Nat.reduceAdd,Nat.reduceSub,Nat.reduceMul,Nat.reduceLeDiff,Int.reduceEq,Nat.reduceEqDiff,drawS,treeS,zNy];refine⟨(Ext.refl hA).push _,?_⟩;refine YD fun hB xB=> ?_
    simp only[coreS,aC,af,Nat.reduceAdd,Nat.reduceSub,Nat.reduceMul,Nat.reduceLeDiff,Int.reduceEq,Nat.reduceEqDiff,drawS,treeS,zNy];refine ak.mono (he1 hB) ?_;rintro v hC ⟨rfl,xC⟩;refine⟨xC,?_⟩
    try simp only[coreS,aC,af,Nat.reduceAdd,Nat.reduceSub,Nat.reduceMul,Nat.reduceLeDiff,Int.reduceEq,Nat.reduceEqDiff,drawS,treeS,zNy]
    refine YD fun hD xD=> ?_
    simp only[coreS,aC,af,Nat.reduceAdd,Nat.reduceSub,Nat.reduceMul,Nat.reduceLeDiff,Int.reduceEq,Nat.reduceEqDiff,drawS,treeS,zNy];have x5D:=((xA.trans xB.zBe).trans xC).trans xD;refine ak.mono (hpost hD x5D) ?_;rintro v hE ⟨⟨a',c',rfl,R',N'⟩,xE⟩;refine⟨xE,?_⟩;simp only[coreS,aC,af,Nat.reduceAdd,Nat.reduceSub,Nat.reduceMul,Nat.reduceLeDiff,Int.reduceEq,Nat.reduceEqDiff,drawS,treeS,zNy];refine Zk fun hF xF=> ?_
    have qF:=xF.get (xE.get (xD.get (xC.get (xB.get jD))));simp only[qF,coreS,aC,af,Nat.reduceAdd,Nat.reduceSub,Nat.reduceMul,Nat.reduceLeDiff,Int.reduceEq,Nat.reduceEqDiff,drawS,treeS,zNy];refine Oy qF (by simp) fun hG gG uG=> ?_
    simp only[splice,dL,dG,bK,cz,bL,aZ,bv]at gG;refine zAN fun hH xH=> ?_
    have s0:=xA.size;have s1:=xB.size;have s2:=xC.size;have s3:=xD.size;rw[Rh]at s1;simp only[Gd];exact zBX (by kernel_rfl) ⟨(uG.ext ((x5D.trans xE).trans xF) (by omega)).trans xH,rfl,hA.size,a',c',rfl,s0,xH.get gG,(zPX (R'.ext xF) uG fun p hp=>by have:=N' p hp;omega).ext xH,fun p hp=>by have:=N' p hp;omega⟩
  rintro e6 h6 ⟨x6,e13,q,aQ,cQ',e12,hq,gq,RQ,NQ⟩;simp only[e13,e12,gq,decide_true,bE,coreS,aC,af,Nat.reduceAdd,Nat.reduceSub,Nat.reduceMul,Nat.reduceLeDiff,Int.reduceEq,Nat.reduceEqDiff,zNy];refine ak.mono (zSJ 2 0 aQ (i+1) cQ' (zOp W (i+1)) h6 RQ (by rw[zP1]) (by omega)) ?_;rintro v h7 ⟨rfl,x7⟩;rw[zSY (by omega) HW];have g7:=(x6.trans x7).get g5;have q7:=x7.get gq;have sq:=bA g5;simp only[e12,q7,g7,decide_true,bE,coreS,aC,af,Nat.reduceAdd,Nat.reduceSub,Nat.reduceMul,Nat.reduceLeDiff,Int.reduceEq,Nat.reduceEqDiff,zNy];refine Oy g7 (by simp) fun h8 g8 u8=> ?_
  simp only[splice,dL,dG,bK,cz,bL,aZ,bv]at g8;simp only[he5,coreS,aC,af,Nat.reduceAdd,Nat.reduceSub,Nat.reduceMul,Nat.reduceLeDiff,Int.reduceEq,Nat.reduceEqDiff,zNy];refine⟨by rw[zBS];omega,Zr (by kernel_rfl) ⟨u8.ext (x5.trans (x6.trans x7)) (bM _),i+1,by omega,rfl,aQ,cQ',g8,zPX (RQ.ext x7) u8 (fun p hp=>by have:=NQ p hp;omega),HW,fun p hp=>by have:=NQ p hp;omega⟩ ?_⟩;show n-((i:Int)+1).toNat<n-(i:Int).toNat;omega
 .obtain rfl:i=n:=by omega
  have hm1:m=i+1:=by omega
  obtain⟨day,hday,hdm⟩:∃day:Nat,num.tmod (m:Int)=(day:Int)/\day<m:=by
   refine⟨(num.tmod (m:Int)).toNat,?_,?_⟩
   .have:=zaF (m:Int) hnum.1;omega
   .have h1:=Int.tmod_lt_of_pos num (show(0:Int)<m by omega);have h2:=zaF (m:Int) hnum.1;omega
  have hcm:=zSY (w:=W) (k:=i) (by omega) LB;have hop:opn 2 0 (zOp W i) [(day:Int)]=0:=zYB hcm (by omega);have hB:zSg 2 0 (zOp W i) (day:Int)=[W day-W 0,W 0-W day]:=by
   have hb:=zUH W day i;rw[show min i day=day by omega]at hb;rw[zSg,if_pos hop,zOu];show[zPO (zOp W i) day 0,zPO (zOp W i) day 1]=_;rw[hb.1,hb.2]
  have hl2:=zP1 W i;have x05:=x03.trans x5;simp only[hday,g5,coreS,aC,af,Nat.reduceAdd,Nat.reduceSub,Nat.reduceMul,Nat.reduceLeDiff,Int.reduceEq,Nat.reduceEqDiff,zNy];refine⟨by rw[zBS];omega,by omega,?_⟩;refine ak.mono (hfl aB i cB (zOp W i) h5 x05 RB hl2.symm (by omega) hcm) ?_;rintro v h6 ⟨⟨g,rfl,hld⟩,x6⟩;simp only[coreS,aC,af,Nat.reduceAdd,Nat.reduceSub,Nat.reduceMul,Nat.reduceLeDiff,Int.reduceEq,Nat.reduceEqDiff,zNy];refine ak.mono (hld h6 (Ext.refl _)) ?_;rintro v h7 ⟨⟨a4,n4,c4,rfl,hn4,R4⟩,x7⟩;simp only[coreS,aC,af,Nat.reduceAdd,Nat.reduceSub,Nat.reduceMul,Nat.reduceLeDiff,Int.reduceEq,Nat.reduceEqDiff,zNy];refine Oy jD (by simp) fun h8 g8 u8=> ?_
  simp only[splice,dL,dG,bK,cz,bL,aZ,bv]at g8;have x78:Ext h7 h8:=u8.ext ((Ext.refl h7).push _) (bM _);have x58:=(x6.trans x7).trans x78;have g58:=x58.get g5;simp only[g58,coreS,aC,af,Nat.reduceAdd,Nat.reduceSub,Nat.reduceMul,Nat.reduceLeDiff,Int.reduceEq,Nat.reduceEqDiff,zNy];refine ak.mono (zR0 2 0 aB i cB (zOp W i) day h8 (RB.ext x58) hl2.symm (by omega)) ?_;rintro v h9 ⟨⟨b1,m1,k1,rfl,I1,hm1'⟩,x9⟩;rw[hop];rw[hB]at I1;have g9:=x9.get g8;simp only[g9,coreS,aC,af,Nat.reduceAdd,Nat.reduceSub,Nat.reduceMul,Nat.reduceLeDiff,Int.reduceEq,Nat.reduceEqDiff,zNy];refine ak.mono (zR0 2 0 a4 n4 c4 (zOp W i) day h9 (R4.ext (x78.trans x9)) hn4 (by omega)) ?_;rintro v hA ⟨⟨b2,m2,k2,rfl,I2,hm2'⟩,xA⟩;rw[hop];rw[hB]at I2
  replace I1:=I1.ext xA
  have e1:=I1.len;have e2:=I2.len;simp only[aZ,bv,Nat.reduceAdd]at e1 e2;subst e1 e2;have IA:=((Iw5.ext x58).ext x9).ext xA;have q0:=IA.cell (j:=0) (by omega);have qd:=IA.cell (j:=day) (by omega);have c0:=I1.cell (j:=0) (by simp);have c1:=I1.cell (j:=1) (by simp);have s0:=IA.isSome (by omega);have s1:=I1.isSome (by simp);have v0:[W day-W 0,W 0-W day].getD 0 0=W day-W 0:=rfl;have v1:[W day-W 0,W 0-W day].getD 1 0=W 0-W day:=rfl;rw[v0]at c0;rw[v1]at c1;have t0:lo o 0<=ws.getD 0 0/\ws.getD 0 0<=Go.Proofs.YtejmkibjpaoahaaGreatDoor.hi o 0:=T.1 0 (by omega);have td:lo o day<=ws.getD day 0/\ws.getD day 0<=Go.Proofs.YtejmkibjpaoahaaGreatDoor.hi o day:=T.1 day (by omega);have sz:=S.all 0 (by omega);have sd:=S.all day (by omega);unfold isW at sz sd;have w0:ws.getD 0 0=W 0:=by rw[hW]
  have wd:ws.getD day 0=W day:=by rw[hW]
  simp only[coreS,aC,af,Nat.reduceAdd,Nat.reduceSub,Nat.reduceMul,Nat.reduceLeDiff,Int.reduceEq,Nat.reduceEqDiff,zNy];refine zB9 (by kernel_rfl) zBc [(0,0),(1,0),(2,0),(3,0),(4,0),(5,0),(6,0),(7,0),(8,0),(9,0),(10,0),(11,0),(12,0),(13,0),(14,0),(15,0),(16,0),(17,0),(18,0),(19,0),(20,0),(21,0),(22,0),(23,0),(24,0),(25,0),(26,0),(27,0),(28,0),(29,0),(30,0),(31,0),(32,0),(33,0),(34,0),(35,0),(36,0),(37,0),(38,0),(39,0),(40,0),(41,0),(42,0),(43,0),(44,0),(45,0),(46,0),(47,0),(48,0),(49,0),(50,0),(51,0)] (by kernel_rfl) rfl (by kernel_rfl) ?_;simp only[bi,q0,qd,c0,c1,decide_true,coreS,aC,af,Nat.reduceAdd,Nat.reduceSub,Nat.reduceMul,Nat.reduceLeDiff,Int.reduceEq,Nat.reduceEqDiff,drawS,zNy];refine⟨fun _=>⟨by omega,s0,by omega,s1,by rw[zBS];omega,by omega,s0,fun _=>⟨by omega,s1,by omega,s1,by rw[zBS];omega,fun _=> ?_,fun q=>absurd (show W day-W 0+(W 0-W day)=0 by omega) q⟩,fun q=>absurd (show ws.getD 0 0+(W day-W 0)=ws.getD day 0 by omega) q⟩,fun q=>absurd rfl q⟩;refine zCC (.bool true) (fun h' x'=>ak.mono (zWT b1 b2 2 k1 2 k2 _ _ h' (I1.ext x') (I2.ext x') (by omega) (by omega)) fun v h'' q=>⟨by rw[q.1];simp,by rw[q.2];exact Ext.refl _⟩) ?_;simp only[decide_true,coreS,aC,af,Nat.reduceAdd,Nat.reduceSub,Nat.reduceMul,Nat.reduceLeDiff,Int.reduceEq,Nat.reduceEqDiff,drawS,zNy];refine zCC (.bool true) (fun h' x'=>ak.mono (wk h') fun v h'' q=>⟨q.1,q.2⟩) ?_;simp only[decide_true,coreS,aC,af,Nat.reduceAdd,Nat.reduceSub,Nat.reduceMul,Nat.reduceLeDiff,Int.reduceEq,Nat.reduceEqDiff,drawS,zNy];refine zBw fun hB xB=> ?_
  simp only[coreS,aC,af,Nat.reduceAdd,Nat.reduceSub,Nat.reduceMul,Nat.reduceLeDiff,Int.reduceEq,Nat.reduceEqDiff,zNy];exact((((x05.trans x58).trans x9).trans xA).trans xB)
end Go.Proofs.YtejmkibjpaoahaaGreatDoor
end
section
set_option linter.unusedVariables false
set_option linter.unusedSimpArgs false
namespace Go.Eng
open Go
attribute [local semireducible] aI iP gP lm WP
section bytes
variable {P:Program}{er:Env}{h:Heap}{ty:TypeId}
section
variable {Q:Value->Heap->Prop}{dst src:TypeId}{x:Operand}
def ni (s:ByteArray):List Value:=s.data.toList.map fun b=> .int .u8 b.toNat
theorem iy (s:ByteArray):(ni s).length=s.size:=by rw[ni,dC,fo];rfl
theorem zBK (s:ByteArray){i:Nat}(hi:i<(ni s).length):(ni s)[i]= .int .u8 (s.data.getD i 0).toNat:=by
 have hi':i<s.data.size:=by simpa[ni]using hi
 rw[kS,qz hi',rO];simp[ni]
theorem Ri {e:TypeId}(hs:P.underlying src=some .string)(hd:P.underlying dst=some (.slice e))(he:P.underlying e=some (.int .u8)){s:ByteArray}(hx:ev er x= .string s)(H:∀a c h',s.size<=c->a=some ⟨h.size,0,none⟩->Row h' a (ni s)->Ext h h'->Q (.slice a s.size c) h'):aI P (.convert src dst x) ty er h Q:=by
 unfold aI;refine aD rfl fun w hw=> ?_
 subst hw;have g1:=Lib.run_convert_string_bytes (P:=P) w src dst e s hs hd he;have h1:(execOp (ev er) {dst:=none,op:= .convert src dst x,type:=ty,pos:= "",after:= #[],guard:=none}).run P w= .ok (.value (.slice (some ⟨w.heap.size,0,none⟩) s.size (grownCap w s.size 0 e))) (Lib.bytesWorld w e s):=by
  simp only[execOp,hx,Sem.run_bind,g1,Result.andThen_ok,Sem.run_pure]
 rw[h1];refine⟨H _ _ _ (grownCap_ge w s.size 0 e) rfl (.inr ⟨w.heap.size,0,_,_,_,rfl,Lib.bytesWorld_at_new w e s,?_,?_⟩) ⟨by rw[WS];omega,fun c hc=>Ol w e s c hc⟩,rfl,rfl,rfl⟩
 .rw[iy];simp[zaQ]
 .rw[iy];have h2:s.size=(s.data.toList.map fun b=>lN .u8 (b.toNat:Int)).length:=by rw[dC,fo];rfl
  rw[ww,zaQ,Array.toList_append,Array.toList_map,h2,FN]
  .rfl
  .rfl
theorem AY:∀(l:List UInt8) (b:ByteArray),((l.map fun x=>(x.toNat:Int)).foldl (fun r n=>r.push (qO n.toNat)) b).data.toList=b.data.toList++l
 |[],b=>by simp
 |x::l,b=>by
  rw[ib,List.foldl_cons,AY l];simp[ByteArray.push]
theorem Rk {e:TypeId}(hs:P.underlying src=some (.slice e))(hd:P.underlying dst=some .string)(he:P.underlying e=some (.int .u8)){s:ByteArray}{a:Option Addr}{n c:Nat}(hx:ev er x= .slice a n c)(I:Row h a (ni s))(hn:n=s.size)(H:Q (.string s) h):aI P (.convert src dst x) ty er h Q:=by
 refine aK rfl _ H fun w hw=> ?_
 subst hw;have g1:=run_convert_bytes_string (P:=P) w src dst e a n c hs he hd;have g2:(Conv.bytesToString (.slice a n c)).run P w= .ok (.string s) w:=by
  cases a with
  |none=>
   have h0:s.size=0:=by
    rcases I with I|⟨g,off,cur,ct,fr,h1,_⟩
    .rw[<-iy,I];rfl
    .cases h1
   have:s=ByteArray.empty:=by
    apply XW;apply Array.eq_empty_of_size_eq_zero;exact h0
   subst this;rfl
  |some a=>
   have hf:=qJ (P:=P) (w:=w) (b:=some a) (m:=n) (c:=c) (k:=n) (s:=1) I (by rw[iy,hn,Nat.mul_one]) (bM _);have hl:(loadCells a n).run P w= .ok ((s.data.toList.map fun x=>(x.toNat:Int)).map (lN .u8)).toArray w:=by
    have e1:(ni s).take (n*1)=(s.data.toList.map fun x=>(x.toNat:Int)).map (lN .u8):=by
     rw[bD (by rw[iy];omega),ql];rfl
    rw[e1]at hf;simpa[Builtin.firstCells]using hf
   rw[run_bytesToString w a n c _ hl];congr 2;apply XW;apply zS.1;rw[AY];simp
 simp only[execOp,hx,Sem.run_bind,g1,g2,Result.andThen_ok,Sem.run_pure]
end
end bytes
end Go.Eng
end
section
namespace Go.Proofs.YtejmkibjpaoahaaGreatDoor
open Go Go.Proofs Go.Eng Tab Go.RowKit
section
variable {P:Program}{h:Eng.Heap}
set_option maxRecDepth 100000
set_option linter.unusedSimpArgs false
set_option linter.unusedVariables false
set_option maxHeartbeats 2000000
set_option linter.defProp false
def zOV:=(aD (aD (aD @zZ6 @by5) (aD @zZd @sz5)) (aD (aD @zZU @Tryz.underlying3) (aD @Tryz.underlying5 (aD @Tryz.underlying9 @Tryz.underlying25))))
def zO3:=(aD (aD @by3 (aD @zPs @sz3)) (aD @zRm (aD @Tryz.underlying9 @Tryz.underlying29)))
theorem zSk {f:FuncId}{args:Array Value}{v:Value}(hb:qA P f=true)(H:∀w:World,Calls P f args w fun e w'=>e= .returned v/\Below w.heap.size w w'):ak P f args h (fun u h'=>u=v/\Ext h h'):=by
 unfold ak gP;refine⟨hb,fun w hw=> ?_⟩;refine(H w).mono fun e w' ⟨he,b⟩=> ?_
 exact⟨v,he,⟨rfl,by rw[<-hw];exact⟨b.size,fun i hi=>b.block i hi⟩⟩,b.os,b.tape,b.output⟩
theorem zQ9 {f:FuncId}{args:Array Value}{v:Value}(hb:qA P f=true)(H:∀w:World,Calls P f args w fun e w'=>e= .returned v/\w'=w):ak P f args h (fun u h'=>u=v/\h'=h):=by
 unfold ak gP;refine⟨hb,fun w hw=> ?_⟩;refine(H w).mono fun e w' ⟨he,b⟩=> ?_
 subst b;exact⟨v,he,⟨rfl,hw⟩,rfl,rfl,rfl⟩
theorem zW9 (s cutset:ByteArray)(h:Eng.Heap)(hs:s.size<=9223372036854775807)(hcs:cutset.size<4294967281)(ha:cutset.data.toList.all (fun b=>decide (b.toNat<128))=true):
 ak aF 183 #[.string s,.string cutset] h (fun v h'=>v= .string ⟨(XX s.data.toList cutset.data.toList).toArray⟩/\Ext h h'):=
 zSk (by kernel_rfl) fun w=>Any.strings_Trim_laid Tryz.zWO (by kernel_rfl) s cutset w hs hcs (ascii_of_all ha)
theorem zWK (s:ByteArray)(c:Int)(h:Eng.Heap)(hs:s.size<4611686018427387904):
 ak aF 126 #[.string s,.int .u8 c] h (fun v h'=>v= .int .i64 (IY s c)/\h'=h):=
 zQ9 (by kernel_rfl) fun w=>Any.strings_LastIndexByte Tryz.zWN s c hs w
theorem zOb {s:Tmp}{w:Bool}{op:Op}{ty:TypeId}{all rest:List Oper}{k:aj}{dst:Option Tmp}{e:Env}{d:List Deferred}:gd P undef s w op ty all rest k dst e d h=dN P all rest k (aU e dst undef) d h:=Tc
theorem zSM {α:Type}{p:α->Bool}:∀{l:List α},l.dropWhile p=[]<->∀b∈l,p b=true
 |[]=>by simp
 |x::l=>by
  rw[List.dropWhile_cons];split
  .rename_i h;rw[zSM (l:=l)];simp[h]
  .rename_i h;simp[h]
theorem zVb (l cs:List UInt8):XX l cs=[]<->∀b∈l,cs.contains b=true:=by
 unfold XX Lib.trimLeftS Lib.trimRightS;constructor
 .intro H;have h1:∀b∈l.reverse.dropWhile (cs.contains ·),cs.contains b=true:=by
   intro b hb;have hh:=zSM.1 H b (NR.2 hb);exact hh
  cases hd:l.reverse.dropWhile (cs.contains ·)with
  |nil=>
   intro b hb;exact zSM.1 hd b (NR.2 hb)
  |cons x r=>
   have hne:l.reverse.dropWhile (cs.contains ·)≠[]:=by rw[hd];simp
   have h2:=List.head_dropWhile_not (cs.contains ·) hne;have h3:=h1 _ (List.head_mem hne);rw[h3]at h2;cases h2
 .intro H;have:l.reverse.dropWhile (cs.contains ·)=[]:=zSM.2 fun b hb=>H b (NR.1 hb)
  rw[this];rfl
def txt (b:UInt8):Bool:=b==32||(decide (48<=b.toNat)&&decide (b.toNat<=57))
def text (s:ByteArray):Bool:=decide (1<=s.size/\s.size<=12)&&s.data.toList.all txt
def dv (b:UInt8):Nat:=if b=32 then 10 else b.toNat-48
def sumTo (s:ByteArray):Nat->Nat
 |0=>0
 |n+1=>sumTo s n+(n+1)*dv (s.data.getD n 0)
def zPo (s:ByteArray):ByteArray:=⟨#[qO (97+sumTo s s.size % 13)]⟩
theorem zQB (s:ByteArray):text s=true<->(1<=s.size/\s.size<=12)/\∀i,i<s.size->txt (s.data.getD i 0)=true:=by
 rw[text,bR,decide_eq_true_eq,dS];refine and_congr_right fun _=>⟨fun H i hi=> ?_,fun H b hb=> ?_⟩
 .have hi':i<s.data.size:=hi;apply H;rw[kS,qz hi',rO,SF];exact Array.getElem_mem hi'
 .obtain⟨i,hi,rfl⟩:=Array.mem_iff_getElem.1 (SF.1 hb);have:=H i hi;rwa[kS,qz hi,rO]at this
theorem zZD (b:UInt8):dv b<=255:=by
 have:=b.toNat_lt;unfold dv;split<;>omega
theorem sumTo_le (s:ByteArray):∀n,n<=12->sumTo s n<=n*3060
 |0,_=>bM _
 |n+1,h=>by
  have h1:=sumTo_le s n (by omega);have h2:(n+1)*dv (s.data.getD n 0)<=12*255:=Nat.mul_le_mul h (zZD _);rw[sumTo];omega
theorem zVd:∀b:UInt8,txt b=([48,49,50,51,52,53,54,55,56,57,32]:List UInt8).contains b:=by
 have key:∀n:Fin 256,txt (qO n.1)=([48,49,50,51,52,53,54,55,56,57,32]:List UInt8).contains (qO n.1):=by decide
 intro b;have:=key ⟨b.toNat,b.toNat_lt⟩;simpa using this
theorem zSu (s:ByteArray)(h:Eng.Heap)(hs:s.size<=9223372036854775807):ak aF 127 #[.string s] h (fun v h'=>v= .bool (text s)/\Ext h h'):=by
 (refine Rm Tryz.func127 rfl zXS ?_;simp only[Tryz.ntmps127,Tryz.results127,coreS,U1,splice,aC,af,Nat.reduceAdd,Nat.reduceSub,Nat.reduceMul,Nat.reduceLeDiff,Int.reduceEq,Nat.reduceEqDiff,zO3])
 refine ak.mono (zPh 1 12 (some ⟨h.size,0,none⟩) 1 1 [(s.size:Int)] _ (zPN jD) (by omega)) ?_;rintro v h1 ⟨rfl,x1⟩;have x1':=x1.zBe;by_cases hl:1<=(s.size:Int)/\(s.size:Int)<=12
 .simp only[zPI,hl,decide_true,coreS,aC,af,Nat.reduceAdd,Nat.reduceSub,Nat.reduceMul,Nat.reduceLeDiff,Int.reduceEq,Nat.reduceEqDiff,zO3];refine ak.mono (zW9 s _ h1 hs (by decide) (by decide)) ?_;rintro v h2 ⟨rfl,x2⟩;have hi:=zVb s.data.toList [48,49,50,51,52,53,54,55,56,57,32];have ha:text s=true<->∀b∈s.data.toList,([48,49,50,51,52,53,54,55,56,57,32]:List UInt8).contains b=true:=by
   rw[text,bR,decide_eq_true_eq,dS];constructor
   .rintro⟨_,H⟩ b hb;exact(zVd b).symm.trans (H b hb)
   .exact fun H=>⟨by omega,fun b hb=>(zVd b).trans (H b hb)⟩
  cases hlt:text s with
  |true=>
   have e:=hi.2 (ha.1 hlt);simp only[e,coreS,aC,af,Nat.reduceAdd,Nat.reduceSub,Nat.reduceMul,Nat.reduceLeDiff,Int.reduceEq,Nat.reduceEqDiff,zO3];exact⟨by simp,x1'.trans x2⟩
  |false=>
   have e:¬XX s.data.toList [48,49,50,51,52,53,54,55,56,57,32]=[]:=fun hh=>by rw[ha.2 (hi.1 hh)]at hlt;cases hlt
   have e2:¬(⟨(XX s.data.toList [48,49,50,51,52,53,54,55,56,57,32]).toArray⟩:ByteArray)=⟨#[]⟩:=fun hh=>e (by
    have:=congrArg (fun b:ByteArray=>b.data.toList) hh;simpa using this)
   simp only[e2,decide_false,coreS,aC,af,Nat.reduceAdd,Nat.reduceSub,Nat.reduceMul,Nat.reduceLeDiff,Int.reduceEq,Nat.reduceEqDiff,zO3];exact x1'.trans x2
 .have ht:text s=false:=by
   rw[zl];exact fun hh=>hl (by have:=((zQB s).1 hh).1;omega)
  simp only[zPI,hl,ht,zOb,decide_false,coreS,aC,af,Nat.reduceAdd,Nat.reduceSub,Nat.reduceMul,Nat.reduceLeDiff,Int.reduceEq,Nat.reduceEqDiff,zO3];exact x1'
theorem zV8 (s:ByteArray)(i:Nat):((i:Int)+1)*(dv (s.data.getD i 0):Int)=(((i+1)*dv (s.data.getD i 0):Nat):Int):=by
 rw[Int.natCast_mul];rfl
theorem zW0 (a b:Nat):(a:Int).tmod b=((a % b:Nat):Int):=by rw[Int.tmod_eq_emod_of_nonneg (by omega)];rfl
theorem zUu {b:UInt8}(h:(b.toNat:Int)=32):dv b=10:=by
 have:b=32:=GA.1 (by simpa using(by omega:b.toNat=32));rw[dv,if_pos this]
theorem zUv {b:UInt8}(h:¬(b.toNat:Int)=32)(ht:txt b=true):(b.toNat:Int)-48=(dv b:Int)/\48<=b.toNat/\b.toNat<=57:=by
 have hb:¬b=32:=fun e=>h (by rw[e];rfl)
 have h2:48<=b.toNat/\b.toNat<=57:=by simpa[txt,hb]using ht
 rw[dv,if_neg hb];omega
theorem zS5 (s:ByteArray)(h:Eng.Heap)(ht:text s=true):ak aF 72 #[.string s] h (fun v h'=>v= .string (zPo s)/\Ext h h'):=by
 obtain⟨⟨h1,h12⟩,hb⟩:=(zQB s).1 ht
 (refine Rm Tryz.func72 rfl zYu ?_;simp only[Tryz.ntmps72,Tryz.results72,coreS,U1,splice,aC,af,Nat.reduceAdd,Nat.reduceSub,Nat.reduceMul,Nat.reduceLeDiff,Int.reduceEq,Nat.reduceEqDiff,zOV])
 refine Ri ed rA gY (by rfl) fun a c h2 hc _ R2 x2=> ?_
 have hsm:a.isSome=true:=R2.isSome (by rw[iy];omega);simp only[coreS,aC,af,Nat.reduceAdd,Nat.reduceSub,Nat.reduceMul,Nat.reduceLeDiff,Int.reduceEq,Nat.reduceEqDiff,zOV];refine zAi [3,4,5,6,10,11,12,13,14,15,16,17,18,19,20,21,22,23,24,25,26] (fun g h'=>h'=h2/\∃i:Nat,i<=s.size/\g 10= .int .i64 i/\g 3= .int .i64 (sumTo s i)) (fun g _=>match g 10 with| .int _ q=>s.size-q.toNat|_=>0) ⟨rfl,0,by omega,rfl,rfl⟩ ?_;rintro g h' ⟨rfl,i,hin,hg10,hg3⟩;by_cases hi:i<s.size
 .have hn:=zV8 s i;have hle:=sumTo_le s i (by omega);have hle1:=sumTo_le s (i+1) (by omega);have hs1:sumTo s (i+1)=sumTo s i+(i+1)*dv (s.data.getD i 0):=rfl;have hcell:=R2.cell (j:=i) (by rw[iy];exact hi);rw[zBK]at hcell;by_cases hbl:((s.data.getD i 0).toNat:Int)=32
  .have hd:=zUu hbl;rw[hd]at hn hs1;have hn':((i:Int)+1)*10=(((i+1)*10:Nat):Int):=hn;simp only[hg10,hg3,hcell,hbl,hn',bi,decide_true,bE,coreS,aC,af,Nat.reduceAdd,Nat.reduceSub,Nat.reduceMul,Nat.reduceLeDiff,Int.reduceEq,Nat.reduceEqDiff,zOV];refine⟨fun _=>⟨⟨by omega,by omega⟩,hsm,?_⟩,fun hge=>absurd (by omega) hge⟩;refine⟨by rw[zBS];omega,by rw[zBS];omega,by rw[zBS];omega,by rw[zBS];omega,Zr (by kernel_rfl) ⟨rfl,i+1,by omega,rfl,?_⟩ ?_⟩
   .show lN .i64 _=_;rw[hs1];congr 1
   .show s.size-((i:Int)+1).toNat<s.size-(i:Int).toNat;omega
  .obtain⟨hd,hd1,hd2⟩:=zUv hbl (hb i hi);simp only[hg10,hg3,hcell,hbl,hd,hn,bi,decide_false,bP,coreS,aC,af,Nat.reduceAdd,Nat.reduceSub,Nat.reduceMul,Nat.reduceLeDiff,Int.reduceEq,Nat.reduceEqDiff,zOV];refine⟨fun _=>⟨⟨by omega,by omega⟩,hsm,?_⟩,fun hge=>absurd (by omega) hge⟩;refine⟨by rw[zCA];omega,by rw[zBS];omega,by rw[zBS];omega,by rw[zBS];omega,by rw[zBS];omega,by rw[zBS];omega,Zr (by kernel_rfl) ⟨rfl,i+1,by omega,rfl,?_⟩ ?_⟩
   .show lN .i64 _=_;rw[hs1];congr 1
   .show s.size-((i:Int)+1).toNat<s.size-(i:Int).toNat;omega
 .have hm:=zW0 (sumTo s i) 13;have hm':((sumTo s i:Nat):Int).tmod 13=((sumTo s i % 13:Nat):Int):=hm;have hr:sumTo s i % 13<13:=Nat.mod_lt _ (by decide);have hlt:¬(i:Int)<s.size:=by omega
  simp only[hg10,hg3,hm',hlt,decide_false,bi,coreS,aC,af,Nat.reduceAdd,Nat.reduceSub,Nat.reduceMul,Nat.reduceLeDiff,Int.reduceEq,Nat.reduceEqDiff,zOV];refine⟨by decide,by rw[zBS];omega,by rw[zCA];omega,?_⟩;obtain rfl:i=s.size:=by omega
  have hv:ni (zPo s)=[.int .u8 (97+((sumTo s s.size % 13:Nat):Int))]:=by
   have e1:(qO (97+sumTo s s.size % 13)).toNat=97+sumTo s s.size % 13:=by
    rw[zaf];omega
   simp only[ni,zPo,ib,xW,e1];rfl
  refine Rk (s:=zPo s) (a:=some ⟨h'.size,0,none⟩) (n:=1) (c:=1) rA ed gY (by rfl) (by rw[hv];exact Row.block jD) rfl ?_;simp only[coreS,aC,af,Nat.reduceAdd,Nat.reduceSub,Nat.reduceMul,Nat.reduceLeDiff,Int.reduceEq,Nat.reduceEqDiff,zOV];exact x2.trans ((Ext.refl _).push _)
end
end Go.Proofs.YtejmkibjpaoahaaGreatDoor
end
section
namespace Go.Proofs.YtejmkibjpaoahaaGreatDoor
open Go Go.Proofs Go.Eng Tab Go.RowKit
set_option maxRecDepth 100000
set_option linter.unusedSimpArgs false
set_option linter.unusedVariables false
set_option maxHeartbeats 2000000
set_option linter.defProp false
def zOG:=(aD (aD (aD @by3 @zPs) (aD @sz3 @zRm)) (aD (aD @Tryz.underlying3 @Tryz.underlying5) (aD @Tryz.underlying9 @Tryz.underlying29)))
def at_ (s:ByteArray)(i:Nat):Nat:=(s.data.getD i 0).toNat
def zPF (s:ByteArray):Bool:=decide (3<=s.size)&&text (s.extract 0 (s.size-2))&&decide (at_ s (s.size-2)=32)&&decide (97<=at_ s (s.size-1))&&decide (at_ s (s.size-1)<=109)
theorem zXC (s:ByteArray)(i:Nat)(hi:i<s.size):(s.data[i]!).toNat=at_ s i:=by
 have hi':i<s.data.size:=hi;rw[at_,getElem!_pos s.data i hi',kS,qz hi',rO]
theorem zQE (s:ByteArray)(i j:Nat)(h:i<=j)(hj:j<=s.size):(s.extract i j).size=j-i:=by
 rw[ByteArray.size_extract];omega
theorem zRF {s:ByteArray}(h:text s=true):1<=s.size/\s.size<=12:=((zQB s).1 h).1
theorem zOo (s:ByteArray):zPF s=true<->3<=s.size/\text (s.extract 0 (s.size-2))=true/\at_ s (s.size-2)=32/\97<=at_ s (s.size-1)/\at_ s (s.size-1)<=109:=by
 simp only[zPF,bR,decide_eq_true_eq,and_assoc]
theorem zRK {s:ByteArray}(h:zPF s=true):IY s 32=((s.size-2:Nat):Int):=by
 obtain⟨h3,_,hb,h97,_⟩:=(zOo s).1 h;obtain⟨n,hn⟩:∃n,s.size=n+2:=⟨s.size-2,by omega⟩;rw[hn]at hb h97 ⊢;rw[IY,hn,Lib.lastIdx_miss _ _ _ (by rw[zXC s _ (by omega)];rw[show n+2-1=n+1 by omega]at h97;omega),Lib.lastIdx_hit _ _ _ (by rw[zXC s _ (by omega)];rw[show n+2-2=n by omega]at hb;omega)];rfl
theorem zWn (s:ByteArray)(h:Eng.Heap)(hs:s.size<=1000):ak aF 70 #[.string s] h (fun v h'=>v=(if zPF s then .tuple #[.string (s.extract 0 (s.size-2)),.string (s.extract (s.size-1) s.size),.bool true]else .tuple #[.string ⟨#[]⟩,.string ⟨#[]⟩,.bool false])/\Ext h h'):=by
 (refine Rm Tryz.func70 rfl zYs ?_;simp only[Tryz.ntmps70,Tryz.results70,coreS,U1,splice,aC,af,Nat.reduceAdd,Nat.reduceSub,Nat.reduceMul,Nat.reduceLeDiff,Int.reduceEq,Nat.reduceEqDiff,zOG])
 refine ak.mono (zWK s 32 h (by omega)) ?_;rintro v h1 ⟨rfl,rfl⟩;have no:∀{h2:Eng.Heap},zPF s=false->Ext h1 h2->(Value.tuple #[.string ⟨#[]⟩,.string ⟨#[]⟩,.bool false]=(if zPF s then .tuple #[.string (s.extract 0 (s.size-2)),.string (s.extract (s.size-1) s.size),.bool true]else .tuple #[.string ⟨#[]⟩,.string ⟨#[]⟩,.bool false])/\Ext h1 h2):=fun e x=>⟨by rw[e];rfl,x⟩
 rcases Lib.lastIndexByte_spec s 32 with⟨hL,_⟩|⟨i,hi,hL,hbl,_⟩
 .have hf:zPF s=false:=by
   rw[zl];intro hh;have:=zRK hh;rw[hL]at this;omega
  have hneg:(-1:Int)<0:=by decide
  simp only[hL,hneg,zOb,decide_true,coreS,aC,af,Nat.reduceAdd,Nat.reduceSub,Nat.reduceMul,Nat.reduceLeDiff,Int.reduceEq,Nat.reduceEqDiff,zOG];exact no hf (Ext.refl _)
 .have hneg:¬(i:Int)<0:=by omega
  by_cases hn:(s.size:Int)=(i:Int)+2
  .obtain rfl:i=s.size-2:=by omega
   have e1:((s.size-2:Nat):Int)+1=((s.size-1:Nat):Int):=by omega
   rw[zXC s _ hi]at hbl;simp only[hL,hneg,hn,zOb,bi,decide_true,decide_false,bE,coreS,aC,af,Nat.reduceAdd,Nat.reduceSub,Nat.reduceMul,Nat.reduceLeDiff,Int.reduceEq,Nat.reduceEqDiff,zOG];refine⟨by rw[zBS];omega,by decide,by omega,by omega,?_⟩;have z0:((0:Nat):Int).toNat=0:=rfl;have hx:(s.extract 0 (s.size-2)).size<=1000:=by rw[zQE _ _ _ (by omega) (by omega)];omega
   refine ak.mono (zSu (s.extract 0 (s.size-2)) h1 (by omega)) ?_;rintro v h2 ⟨rfl,x2⟩;cases ht:text (s.extract 0 (s.size-2))with
   |false=>
    have hf:zPF s=false:=by rw[zPF,ht];simp
    simp only[zOb,bP,coreS,aC,af,Nat.reduceAdd,Nat.reduceSub,Nat.reduceMul,Nat.reduceLeDiff,Int.reduceEq,Nat.reduceEqDiff,zOG];exact no hf x2
   |true=>
    have h3:3<=s.size:=by
     have:=zRF ht;rw[zQE _ _ _ (by omega) (by omega)]at this;omega
    have hat:(s.data.getD (s.size-1) 0).toNat=at_ s (s.size-1):=rfl;simp only[e1,hat,bi,bE,coreS,aC,af,Nat.reduceAdd,Nat.reduceSub,Nat.reduceMul,Nat.reduceLeDiff,Int.reduceEq,Nat.reduceEqDiff,zOG];have hlt:=(s.data.getD (s.size-1) 0).toNat_lt;rw[hat]at hlt;refine⟨by rw[zBS];omega,⟨by omega,by omega⟩,by rw[zBS];omega,?_⟩;refine ak.mono (zPh 97 109 (some ⟨h2.size,0,none⟩) 1 1 [(at_ s (s.size-1):Int)] _ (zPN jD) (by omega)) ?_;rintro v h4 ⟨rfl,x4⟩;have x4':=x2.trans x4.zBe;have e0:((s.size:Nat):Int)-2=((s.size-2:Nat):Int):=by omega
    by_cases hw:97<=(at_ s (s.size-1):Int)/\(at_ s (s.size-1):Int)<=109
    .have hok:zPF s=true:=(zOo s).2 ⟨h3,ht,by omega,by omega,by omega⟩;simp only[zPI,hw,decide_true,bE,coreS,aC,af,Nat.reduceAdd,Nat.reduceSub,Nat.reduceMul,Nat.reduceLeDiff,Int.reduceEq,Nat.reduceEqDiff,zOG];refine zB9 (by kernel_rfl) zBp [(0,0),(1,0),(2,0),(3,0),(4,0),(5,0),(6,0),(7,0),(8,0),(9,0)] (by kernel_rfl) rfl (by kernel_rfl) ?_;simp only[e1,bi,coreS,aC,af,Nat.reduceAdd,Nat.reduceSub,Nat.reduceMul,Nat.reduceLeDiff,Int.reduceEq,Nat.reduceEqDiff,drawS,zOG];exact⟨by decide,by omega,by omega,by rw[zBS];omega,by omega,by omega,by omega,by rw[hok];rfl,x4'⟩
    .have hf:zPF s=false:=by
      rw[zl];intro hh;have:=((zOo s).1 hh).2.2.2;exact hw ⟨by omega,by omega⟩
     simp only[zPI,hw,decide_false,bP,coreS,aC,af,Nat.reduceAdd,Nat.reduceSub,Nat.reduceMul,Nat.reduceLeDiff,Int.reduceEq,Nat.reduceEqDiff,zOG];exact no hf x4'
  .have hf:zPF s=false:=by
    rw[zl];intro hh;have h2:=zRK hh;have h3:=((zOo s).1 hh).1;rw[hL]at h2;omega
   simp only[hL,hneg,hn,zOb,decide_false,bP,coreS,aC,af,Nat.reduceAdd,Nat.reduceSub,Nat.reduceMul,Nat.reduceLeDiff,Int.reduceEq,Nat.reduceEqDiff,zOG];exact⟨by rw[zBS];omega,no hf (Ext.refl _)⟩
end Go.Proofs.YtejmkibjpaoahaaGreatDoor
end
section
namespace Go.Proofs.YtejmkibjpaoahaaGreatDoor
set_option linter.unusedSimpArgs false
set_option linter.unusedVariables false
set_option linter.defProp false
set_option linter.unusedSectionVars false
namespace FL
variable {α:Type}[DecidableEq α]
def prt (c:α):List α->List (List α)
 |[]=>[[]]
 |x::s=>if x=c then[]::prt c s else match prt c s with
  |[]=>[[x]]
  |w::ws=>(x::w)::ws
def jn (c:α):List (List α)->List α
 |[]=>[]
 |[w]=>w
 |w::v::ws=>w++c::jn c (v::ws)
theorem zQS (c:α):∀s:List α,prt c s≠[]
 |[]=>by simp[prt]
 |x::s=>by
  rw[prt];split
  .simp
  .cases prt c s<;>simp
theorem zV0 (c:α):∀(s:List α) (w:List α),w∈prt c s->c∉w
 |[],w,h=>by
  rw[prt,fe]at h;rw[h];exact kY
 |x::s,w,h=>by
  have ih:=zV0 c s;rw[prt]at h;split at h
  .rcases ek.1 h with h|h
   .rw[h];exact kY
   .exact ih w h
  .rename_i hx;cases hp:prt c s with
   |nil=>exact absurd hp (zQS c s)
   |cons v ws=>
    rw[hp]at h ih;rcases ek.1 h with h|h
    .rw[h];intro hc;rcases ek.1 hc with e|hc
     .exact hx e.symm
     .exact ih v dn hc
    .exact ih w (cZ _ h)
theorem zQr (c:α):∀(w:List α),c∉w->prt c w=[w]
 |[],_=>rfl
 |x::w,h=>by
  rw[prt,if_neg (fun e=>h (by rw[e];exact dn)),zQr c w fun hc=>h (cZ _ hc)]
theorem zRW (c:α):∀(w s:List α),c∉w->prt c (w++c::s)=w::prt c s
 |[],s,_=>by rw[bK,prt,if_pos rfl]
 |x::w,s,h=>by
  rw[cz,prt,if_neg (fun e=>h (by rw[e];exact dn)),zRW c w s fun hc=>h (cZ _ hc)]
theorem zTd (c:α):∀(ws:List (List α)),ws≠[]->(∀w,w∈ws->c∉w)->prt c (jn c ws)=ws
 |[],h,_=>absurd rfl h
 |[w],_,h=>zQr c w (h w dn)
 |w::v::ws,_,h=>by
  show prt c (w++c::jn c (v::ws))=_;rw[zRW c w _ (h w dn),zTd c (v::ws) (by simp) fun u hu=>h u (cZ _ hu)]
def dgt (n:Nat):List Nat:=if h:n<10 then[n]else dgt (n/10)++[n % 10]
termination_by n
def val (l:List Nat):Nat:=l.foldl (fun v d=>10*v+d) 0
theorem zQu (l:List Nat)(d:Nat):val (l++[d])=10*val l+d:=by rw[val,List.foldl_append];rfl
theorem zWd:∀n,val (dgt n)=n:=fun n=>by
 induction n using OC with
 |ind n ih=>
  rw[dgt];split
  .show 10*0+n=n;omega
  .rw[zQu,ih (n/10) (by omega)];omega
def good (l:List Nat):Prop:=l≠[]/\(∀d,d∈l->d<10)/\(1<l.length->l.head?≠some 0)
theorem zR2:∀n,good (dgt n)/\(0<n->(dgt n).head?≠some 0):=fun n=>by
 induction n using OC with
 |ind n ih=>
  rw[dgt];split
  .rename_i h;refine⟨⟨by simp,fun d hd=>by rw[fe.1 hd];exact h,fun h=>by simp at h⟩,fun h0 e=> ?_⟩;simp at e;omega
  .rename_i h;obtain⟨⟨h1,h2,h3⟩,h4⟩:=ih (n/10) (by omega);have hd:(dgt (n/10)++[n % 10]).head? =(dgt (n/10)).head? :=by
    cases hq:dgt (n/10)with
    |nil=>exact absurd hq h1
    |cons x l=>rfl
   rw[hd];have h5:=h4 (by omega);refine⟨⟨by simp,fun d hd=> ?_,fun _=>by rw[hd];exact h5⟩,fun _=>h5⟩;rcases ol.1 hd with hd|hd
   .exact h2 d hd
   .rw[fe.1 hd];omega
theorem zWe:∀l:List Nat,l≠[]->l.head?≠some 0->0<val l:=fun l=>by
 induction hn:l.length generalizing l with
 |zero=>intro h;exact absurd (mD hn) h
 |succ n ih=>
  intro h h0;rw[<-rV h,zQu];by_cases hd:l.dropLast=[]
  .rw[hd];have:l=[l.getLast h]:=by
    have:=rV h;rw[hd]at this;exact this.symm
   rw[this]at h0;simp only[zaH]at h0;have h1:l.getLast h≠0:=fun e=>h0 (by rw[e])
   show 0<10*0+_;omega
  .have:=ih l.dropLast (by rw[Bd];omega) hd (by
    have:l.dropLast.head? =l.head? :=by
     cases l with
     |nil=>exact absurd rfl h
     |cons x l=>
      cases l with
      |nil=>exact absurd rfl hd
      |cons y l=>rfl
    rw[this];exact h0)
   omega
theorem zVr:∀l:List Nat,good l->dgt (val l)=l:=fun l=>by
 induction hn:l.length generalizing l with
 |zero=>intro h;exact absurd (mD hn) h.1
 |succ n ih=>
  rintro⟨h,h2,h3⟩;have hl:=rV h;have hx:l.getLast h<10:=h2 _ (List.getLast_mem h);by_cases hd:l.dropLast=[]
  .have e:l=[l.getLast h]:=by
    rw[hd]at hl;exact hl.symm
   rw[e];have:val [l.getLast h]=l.getLast h:=by show 10*0+_=_;omega
   rw[this,dgt,dif_pos hx]
  .have hh:l.dropLast.head? =l.head? :=by
    cases l with
    |nil=>exact absurd rfl h
    |cons x l=>
     cases l with
     |nil=>exact absurd rfl hd
     |cons y l=>rfl
   have hlen:1<l.length:=by
    have:=xK.2 hd;rw[Bd]at this;omega
   have h0:=h3 hlen;have ih:=ih l.dropLast (by rw[Bd];omega) ⟨hd,fun d hm=>h2 d ((List.dropLast_sublist l).subset hm),fun _=>by rw[hh];exact h0⟩;have hp:=zWe l.dropLast hd (by rw[hh];exact h0);have e:val l=10*val l.dropLast+l.getLast h:=by
    have:=zQu l.dropLast (l.getLast h);rw[hl]at this;exact this
   rw[e,dgt,dif_neg (by omega),show(10*val l.dropLast+l.getLast h)/10=val l.dropLast by omega,show(10*val l.dropLast+l.getLast h)% 10=l.getLast h by omega,ih];exact hl
end FL
end Go.Proofs.YtejmkibjpaoahaaGreatDoor
end
section
namespace Go.Proofs.YtejmkibjpaoahaaGreatDoor
open Go Go.Proofs Go.Eng
section
variable {i:Nat}{l:List UInt8}{n p:Nat}
set_option maxRecDepth 100000
set_option linter.unusedSimpArgs false
set_option linter.unusedVariables false
def zPg (l:List UInt8):Nat->Nat
 |0=>0
 |n+1=>zPg l n+(n+1)*dv (l.getD n 0)
structure Ln (l:List UInt8)(n:Nat):Prop where
 len:l.length=n+2
 pos:1<=n/\n<=12
 tx:∀i,i<n->txt (l.getD i 0)=true
 bl:l.getD n 0=32
 sg:(l.getD (n+1) 0).toNat=97+zPg l n % 13
def bl (s:ByteArray):List UInt8:=s.data.toList
theorem zOW (s:ByteArray):(bl s).length=s.size:=fo
theorem zOv (s:ByteArray)(i:Nat):s.data.getD i 0=(bl s).getD i 0:=by
 rw[bl,kS,bn,Array.getElem?_toList]
theorem zQU (s t:ByteArray):bl (s++t)=bl s++bl t:=by simp[bl]
theorem zPH (s:ByteArray)(i j:Nat):bl (s.extract i j)=((bl s).take j).drop i:=by simp[bl,ByteArray.data_extract,Array.toList_extract,List.extract_eq_take_drop,List.drop_take]
theorem zQD {s t:ByteArray}(h:bl s=bl t):s=t:=XW (zS.1 h)
theorem zQt (s:ByteArray):∀n,sumTo s n=zPg (bl s) n
 |0=>rfl
 |n+1=>by rw[sumTo,zPg,zQt s n,zOv]
end
end Go.Proofs.YtejmkibjpaoahaaGreatDoor
end
section
namespace Go.Proofs.YtejmkibjpaoahaaGreatDoor
open Go Go.Proofs Go.Eng
section
variable {w:List UInt8}
set_option maxRecDepth 100000
set_option linter.unusedSimpArgs false
set_option linter.unusedVariables false
set_option linter.defProp false
def dgb (n:Nat):List UInt8:=(FL.dgt n).map fun d=>qO (48+d)
theorem zVp:∀n,zbb n=dgb n:=fun n=>by
 induction n using OC with
 |ind n ih=>
  rw[zbb,dgb,FL.dgt];split
  .rfl
  .rw[ih (n/10) (by omega),eF];rfl
def isD (b:UInt8):Bool:=decide (48<=b.toNat/\b.toNat<=57)
def dvs (w:List UInt8):List Nat:=w.map fun b=>b.toNat-48
def zP6 (w:List UInt8):Prop:=w≠[]/\(∀b∈w,isD b=true)/\(1<w.length->w.head?≠some 48)
theorem zPa {b:UInt8}:isD b=true<->48<=b.toNat/\b.toNat<=57:=by unfold isD;rw[decide_eq_true_eq]
theorem zPn {n:Nat}(h:n<256):(qO n).toNat=n:=by
 rw[zaf];omega
theorem zT1 (w:List UInt8):(dvs w).length=w.length:=by simp[dvs]
theorem zTZ (n:Nat):(dgb n).length=(FL.dgt n).length:=by simp[dgb]
theorem zTn (n:Nat):dvs (dgb n)=FL.dgt n:=by
 unfold dvs dgb;rw[ql];refine Eq.trans (lC (g:=id) fun d hd=> ?_) (EE _);have:=(FL.zR2 n).1.2.1 d hd;show(qO (48+d)).toNat-48=d;rw[zPn (by omega)];omega
theorem zSr (hd:∀b∈w,isD b=true):zP6 w<->FL.good (dvs w):=by
 have h0:w≠[]<->dvs w≠[]:=by unfold dvs;simp
 have h2:∀d∈dvs w,d<10:=fun d h=>by
  obtain⟨b,hb,rfl⟩:=gL.1 h;have:=zPa.1 (hd b hb);omega
 have h3:w.head?≠some 48<->(dvs w).head?≠some 0:=by
  cases w with
  |nil=>simp[dvs]
  |cons b w=>
   have hb:=zPa.1 (hd b dn);simp only[dvs,ib,zaH,ne_eq,Option.some.injEq];constructor
   .intro h h1;refine h (GA.1 ?_);show b.toNat=48;omega
   .rintro h rfl;exact h rfl
 unfold zP6 FL.good;rw[h0,h3,zT1];exact⟨fun h=>⟨h.1,h2,h.2.2⟩,fun h=>⟨h.1,hd,h.2.2⟩⟩
theorem zQa (n:Nat):∀b∈dgb n,isD b=true:=fun b hb=>by
 unfold dgb at hb;obtain⟨d,hd,rfl⟩:=gL.1 hb;have:=(FL.zR2 n).1.2.1 d hd;rw[zPa,zPn (by omega)];omega
theorem zR1 (n:Nat):zP6 (dgb n):=by
 rw[zSr (zQa n),zTn];exact(FL.zR2 n).1
def zP3 (w:List UInt8):Nat:=FL.val (dvs w)
theorem zVe (n:Nat):zP3 (dgb n)=n:=by rw[zP3,zTn,FL.zWd]
theorem zWU (hd:∀b∈w,isD b=true):(dvs w).map (fun d=>qO (48+d))=w:=by
 unfold dvs;rw[ql];refine Eq.trans (lC (g:=id) fun b hb=> ?_) (EE _);have:=zPa.1 (hd b hb);apply GA.1;show(qO (48+(b.toNat-48))).toNat=b.toNat;rw[zPn (by omega)];omega
theorem zSp (h:zP6 w):dgb (zP3 w)=w:=by
 unfold dgb zP3;rw[FL.zVr _ ((zSr h.2.1).1 h),zWU h.2.1]
theorem zVq (hd:∀b∈w,isD b=true):dgb (zP3 w)=w<->zP6 w:=⟨fun h=>by rw[<-h];exact zR1 _,zSp⟩
theorem zRG:∀(w:List UInt8) (acc:Nat),(∀b∈w,isD b=true)->zaG acc w=some ((dvs w).foldl (fun v d=>10*v+d) acc)
 |[],acc,_=>rfl
 |b::w,acc,h=>by
  have hb:=zPa.1 (h b dn);have e:Lib.digitVal b=some (b.toNat-48):=by unfold Lib.digitVal;rw[if_pos hb]
  rw[zaG,e];show zaG (acc*10+(b.toNat-48)) w=_;rw[zRG w _ fun c hc=>h c (cZ _ hc),Nat.mul_comm];rfl
theorem zSc (h0:w≠[])(hd:∀b∈w,isD b=true):Rt w=some ((zP3 w:Nat):Int):=by
 match w,h0 with
 |b::w,_=>
  have hb:=zPa.1 (hd b dn);have n1:(b==45)=false:=by
   rw[beq_eq_false_iff_ne];rintro rfl;exact absurd hb (by decide)
  have n2:(b==43)=false:=by
   rw[beq_eq_false_iff_ne];rintro rfl;exact absurd hb (by decide)
  have e:RF (b::w)=some (zP3 (b::w)):=by
   unfold RF;rw[List.isEmpty_cons,if_neg (by decide),zRG _ 0 hd];rfl
  show(if(b==45)=true then(RF w).map (fun(m:Nat)=> -(m:Int))else if(b==43)=true then(RF w).map (fun(m:Nat)=>(m:Int))else(RF (b::w)).map (fun(m:Nat)=>(m:Int)))=_;rw[if_neg (by rw[n1];decide),if_neg (by rw[n2];decide),e];rfl
theorem zUk:Rt []=none:=rfl
theorem zVP (n:Nat):zaB (n:Int)=dgb n:=by
 unfold zaB;rw[if_neg (by omega),bi,zVp]
def zOz (ns:List Nat):List UInt8:=FL.jn 32 (ns.map dgb)
def sgL (l:List UInt8):UInt8:=qO (97+zPg l l.length % 13)
def zPA (ns:List Nat):List UInt8:=zOz ns++[32,sgL (zOz ns)]
def zPt (ns:List Nat):List UInt8:=zPA ns++[10]
end
end Go.Proofs.YtejmkibjpaoahaaGreatDoor
end
section
namespace Go.Proofs.YtejmkibjpaoahaaGreatDoor
open Go Go.Proofs Go.Eng Go.Run Tab
set_option maxRecDepth 100000
set_option linter.unusedSimpArgs false
set_option linter.unusedVariables false
set_option linter.defProp false
set_option maxHeartbeats 1000000
noncomputable def zVf (h:Eng.Heap)(name:String):Option (Array Value):=(Tryz.prog.globalNamed name).bind fun g=>match h[g]? with|some (.cells cs _ _)=>some cs|_=>none
theorem zTT {h h':Eng.Heap}{name:String}{cs:Array Value}(e:zVf h name=some cs)(x:Ext h h'):zVf h' name=some cs:=by
 unfold zVf at e ⊢;cases hg:Tryz.prog.globalNamed name with
 |none=>rw[hg]at e;cases e
 |some g=>
  rw[hg]at e;simp only[Option.bind_some]at e ⊢;cases hh:h[g]? with
  |none=>rw[hh]at e;cases e
  |some o=>rw[x.get hh];rw[hh]at e;exact e
structure Fx (h:Eng.Heap):Prop where
 tab:zVf h "internal/strconv.uint64pow10" =some (Lib.pow10Tab.map fun z=>lN .u64 z).toArray
 err:∃tp p,zVf h "strconv.ErrSyntax" =some #[.iface tp p]
theorem Fx.ext {h h':Eng.Heap}(F:Fx h)(x:Ext h h'):Fx h':=⟨zTT F.tab x,by obtain⟨tp,p,e⟩:=F.err;exact⟨tp,p,zTT e x⟩⟩
theorem zPb {P:Program}{f:FuncId}{args:Array Value}{K:Value->Eng.Heap->Prop}{h:Eng.Heap}(hb:qA P f=true)(H:∀w:World,w.heap=h->Calls P f args w fun e w'=>∃v,e= .returned v/\K v w'.heap/\w'.os=w.os/\w'.tape=w.tape/\w'.output=w.output):ak P f args h K:=by
 unfold ak gP;refine⟨hb,fun w hw=> ?_⟩;refine(H w hw).mono fun e w' ⟨v,he,hk,h1,h2,h3⟩=>⟨v,he,hk,h1,h2,h3⟩
theorem zUt (s:ByteArray)(c:UInt8)(h:Eng.Heap):ak aF 180 #[.string s,.string ⟨#[c]⟩] h (fun v h'=>v= .int .i64 (zba s.data.toList c)/\h'=h):=
 zQ9 (by kernel_rfl) fun w=>Any.strings_Count_one Tryz.zWL s c w
theorem zVJ (s:ByteArray)(c:UInt8)(h:Eng.Heap):ak aF 181 #[.string s,.string ⟨#[c]⟩] h (fun v h'=>v= .int .i64 (BB s.data.toList c)/\h'=h):=
 zQ9 (by kernel_rfl) fun w=>Any.strings_Index_one Tryz.zWM s c w
theorem zRw {w w':World}{h:Eng.Heap}(hw:w.heap=h){k:Nat}{os:Array Obj}(e:w'=Go.Sort.grow (w.drewN k) os):Ext h w'.heap/\w'.os=w.os/\w'.tape=w.tape/\w'.output=w.output:=by
 subst e hw;refine⟨⟨?_,fun i hi=> ?_⟩,rfl,rfl,rfl⟩
 .show w.heap.size<=(w.heap++os).size;rw[Array.size_append];omega
 .show(w.heap++os)[i]? =w.heap[i]?;rw[Array.getElem?_append_left hi]
theorem zXf (n:Int)(h:Eng.Heap)(F:Fx h)(h0: -9223372036854775808<=n)(h1:n<=9223372036854775807):ak aF 122 #[.int .i64 n,.int .i64 10] h (fun v h'=>v= .string ⟨(zaB n).toArray⟩/\Ext h h'):=by
 refine zPb (by kernel_rfl) fun w hw=> ?_
 refine(Any.strconv_FormatInt_10 Tryz.zWQ n h0 h1 w (by subst hw;exact F.tab)).mono ?_;rintro e w' ⟨rfl,k,os,hw'⟩;obtain⟨x,r1,r2,r3⟩:=zRw hw hw';exact⟨_,rfl,⟨rfl,x⟩,r1,r2,r3⟩
theorem zWG (n:Int)(h:Eng.Heap)(F:Fx h)(h0: -9223372036854775808<=n)(h1:n<=9223372036854775807):ak aF 129 #[.int .i64 n] h (fun v h'=>v= .string ⟨(zaB n).toArray⟩/\Ext h h'):=by
 refine zPb (by kernel_rfl) fun w hw=> ?_
 refine(Any.strconv_Itoa Tryz.zWP n h0 h1 w (by subst hw;exact F.tab)).mono ?_;rintro e w' ⟨rfl,k,os,hw'⟩;obtain⟨x,r1,r2,r3⟩:=zRw hw hw';exact⟨_,rfl,⟨rfl,x⟩,r1,r2,r3⟩
def zZ4 (s:ByteArray)(v:Value):Prop:=(∃n,Rt s.data.toList=some n/\v= .tuple #[.int .i64 n,.nilIface])\/(Rt s.data.toList=none/\∃t p,v= .tuple #[.int .i64 0,.iface t p])
theorem zVj (s:ByteArray)(h:Eng.Heap)(F:Fx h)(hl:s.size<=18):ak aF 128 #[.string s] h (fun v h'=>zZ4 s v/\Ext h h'):=by
 refine zPb (by kernel_rfl) fun w hw=> ?_
 cases ha:Rt s.data.toList with
 |none=>
  obtain⟨tp,p,e⟩:=F.err;refine(Any.strconv_Atoi_err_var Tryz.zUB s hl ha tp p w (by subst hw;exact e)).mono ?_;rintro e w' ⟨N,rfl,_,_,b⟩;refine⟨_,rfl,⟨.inr ⟨ha,_,_,rfl⟩,?_⟩,b.os,b.tape,b.output⟩;rw[<-hw];exact⟨b.size,fun i hi=>b.block i hi⟩
 |some n=>
  have hall:Lib.atoiAll s.data.toList= .ok n:=by
   rw[Lib.atoiAll_short _ hl,ha];rfl
  refine(Any.strconv_Atoi_ok Tryz.zUB s (by omega) n hall w).mono ?_;rintro e w' ⟨rfl,hw'⟩;refine⟨_,rfl,⟨.inl ⟨n,ha,rfl⟩,?_⟩,?_⟩
  .rw[<-hw];rcases hw' with rfl|⟨t,rfl⟩
   .exact Ext.refl _
   .exact⟨by rw[WS];omega,fun i hi=>Ol w _ t i hi⟩
  .rcases hw' with rfl|⟨t,rfl⟩<;>exact⟨rfl,rfl,rfl⟩
def zPD (xs:List ByteArray):List Value:=xs.map zR
theorem zPC (xs:List ByteArray):(zPD xs).length=xs.length:=dC _
theorem zT4:Builder.Extra aF Tryz.zPm where
 sizeBuilder:=by kernel_rfl
 liesBuilder:=by kernel_rfl
 t5:=gY
 a5:=run_isAgg_plain gY rfl
 z5:=fun w=>by kernel_rfl
 v5:=fun w=>by kernel_rfl
 infoByte:=by kernel_rfl
 cellsByte:=by kernel_rfl
 sizeByte:=by kernel_rfl
 neB5:=by decide
end Go.Proofs.YtejmkibjpaoahaaGreatDoor
end
section
namespace Go.Proofs.YtejmkibjpaoahaaGreatDoor
open Go Go.Proofs Go.Eng Go.Run Tab
set_option maxRecDepth 100000
set_option linter.unusedSimpArgs false
set_option linter.unusedVariables false
set_option linter.defProp false
set_option maxHeartbeats 1000000
def zQ1 (B b:Nat)(l:List UInt8)(h:Eng.Heap):Prop:=∀w:World,w.heap=h->Lib.IsBuilder 129 5 B b (qf l) w
theorem zSt {T e:TypeId}{B b:Nat}{bs:List Value}{w w':World}(h:w'.heap=w.heap)(H:Lib.IsBuilder T e B b bs w):Lib.IsBuilder T e B b bs w':=by
 unfold Lib.IsBuilder Lib.BuilderAt World.ownsRow at H ⊢;rw[h];exact H
theorem zQ1.of {B b:Nat}{l:List UInt8}{w:World}(H:Lib.IsBuilder 129 5 B b (qf l) w):zQ1 B b l w.heap:=fun w' h=>zSt h H
theorem zQ1.fresh (h:Eng.Heap):zQ1 h.size h.size [] (h.push (.cells #[.pointer none,.slice none 0 0] 129)):=fun w hw=>by
 have:=Lib.fresh_isBuilder 129 5 {w with heap:=h};exact zSt (w:=World.alloc {w with heap:=h} (.cells #[.pointer none,.slice none 0 0] 129)) hw this
structure Ebl (B:Nat)(h h':Eng.Heap):Prop where
 size:h.size<=h'.size
 old:∀i,i<B->h'[i]? =h[i]?
theorem Ebl.ext {B:Nat}{h0 h h':Eng.Heap}(E:Ebl B h h')(x:Ext h0 h)(hB:h0.size<=B):Ext h0 h':=⟨Nat.le_trans x.size E.size,fun i hi=>(E.old i (by omega)).trans (x.old i hi)⟩
theorem zUb (s:ByteArray):Lib.strCells s=qf s.data.toList:=rfl
theorem zYH (B b:Nat)(l:List UInt8)(s:ByteArray)(h:Eng.Heap)(H:zQ1 B b l h)(hl:l.length+s.size<=100000)(hB:B<=h.size):
 ak aF 64 #[.pointer (some ⟨b,0,none⟩),.string s] h (fun v h'=>v= .tuple #[.int .i64 s.size,.nilIface]/\zQ1 B b (l++s.data.toList) h'/\Ebl B h h'):=by
 refine zPb (by kernel_rfl) fun w hw=> ?_
 refine(Any.Builder_WriteString (ρ:=Tryz.zPm) {Tryz.zSU with} zT4 B b _ s w (H w hw) (by simp[qf];omega) (by rw[hw];exact hB)).mono ?_;rintro e w' ⟨rfl,hb,bl⟩;refine⟨_,rfl,⟨rfl,?_,?_⟩,bl.os,bl.tape,bl.output⟩
 .refine zQ1.of (.inr ?_);have e1:qf (l++s.data.toList)=qf l++Lib.strCells s:=by rw[zUb];simp[qf]
  rw[e1];exact hb
 .rw[<-hw];exact⟨bl.size,fun i hi=>bl.block i hi⟩
theorem zZM (B b:Nat)(l:List UInt8)(h:Eng.Heap)(H:zQ1 B b l h)(hB:B<=h.size):
 ak aF 67 #[.pointer (some ⟨b,0,none⟩)] h (fun v h'=>v= .string ⟨l.toArray⟩/\Ebl B h h'):=by
 refine zPb (by kernel_rfl) fun w hw=> ?_
 refine(Any.Builder_String_any (ρ:=Tryz.zPm) {Tryz.zSU with} zT4 B b l w (H w hw) (by rw[hw];exact hB)).mono ?_;rintro e w' ⟨rfl,bl⟩;refine⟨_,rfl,⟨rfl,?_⟩,bl.os,bl.tape,bl.output⟩;rw[<-hw];exact⟨bl.size,fun i hi=>bl.block i hi⟩
theorem zTG (c:UInt8):∀ws:List (List UInt8),Sn ws [c]=FL.jn c ws
 |[]=>rfl
 |[w]=>by
  show Sn [w] [c]=w;simp[Sn,zax]
 |w::v::ws=>by
  have ih:=zTG c (v::ws);show Sn (w::v::ws) [c]=w++c::FL.jn c (v::ws);rw[<-ih];simp[Sn,zax]
theorem zWJ (bk off c:Nat)(xs:List ByteArray)(sep:UInt8)(h:Eng.Heap)(R:Row h (some ⟨bk,off,none⟩) (zPD xs))(h0:0<xs.length)(hc:xs.length<=c)(hn:xs.length<=1000)(hl:(FL.jn sep (xs.map (·.data.toList))).length<=100000):
 ak aF 123 #[.slice (some ⟨bk,off,none⟩) xs.length c,.string ⟨#[sep]⟩] h (fun v h'=>v= .string ⟨(FL.jn sep (xs.map (·.data.toList))).toArray⟩/\Ext h h'):=by
 refine zPb (by kernel_rfl) fun w hw=> ?_
 have hj:=zTG sep (xs.map (·.data.toList));refine(Any.strings_Join Tryz.zSU zT4 bk off c xs ⟨#[sep]⟩ w (fun j x hx=> ?_) ?_ (by omega) hc (by
  show(Sn _ [sep]).length<=_;rw[hj];omega)).mono ?_
 .have hj:=(wE.1 hx).1;have c1:=R.cell (j:=j) (by rw[zPC];exact hj);have e1:(zPD xs)[j]'(by rw[zPC];exact hj)= .string x:=by
   simp only[zPD,MV];rw[(wE.1 hx).2]
  rw[e1,gK]at c1;unfold jL at c1;unfold World.cell?;rw[hw];cases hb:h[bk]? with
  |none=>simp[hb]at c1
  |some ob=>cases ob<;>simp_all
 .rcases R with R|⟨g,o,cur,ct,fr,h1,h2,_⟩
  .have:=congrArg Ma R;rw[zPC,bv]at this;omega
  .cases h1;rw[hw];exact bA h2
 rintro e w' ⟨rfl,bl⟩;refine⟨_,rfl,⟨?_,?_⟩,bl.os,bl.tape,bl.output⟩
 .show zR ⟨(Sn _ [sep]).toArray⟩=_;rw[hj]
 .rw[<-hw];exact⟨bl.size,fun i hi=>bl.block i hi⟩
end Go.Proofs.YtejmkibjpaoahaaGreatDoor
end
section
namespace Go.Proofs.YtejmkibjpaoahaaGreatDoor
open Go Go.Proofs Go.Eng Go.Run Tab
set_option maxRecDepth 100000
set_option linter.unusedSimpArgs false
set_option linter.unusedVariables false
set_option linter.defProp false
set_option maxHeartbeats 1000000
set_option linter.defProp false
def zOH:=(aD (aD (aD @zWz @by9) (aD @zVM @sz9)) (aD (aD @zVh @Tryz.underlying3) (aD @Tryz.underlying9 @Tryz.underlying139)))
theorem zRX (c:UInt8):∀l:List UInt8,(FL.prt c l).length=l.count c+1
 |[]=>rfl
 |x::l=>by
  have ih:=zRX c l;rw[FL.prt];by_cases h:x=c
  .rw[if_pos h,aZ,ih,h,SG]
  .rw[if_neg h,Oo h];cases hp:FL.prt c l with
   |nil=>exact absurd hp (FL.zQS c l)
   |cons w ws=>rw[hp]at ih;simpa using ih
theorem zTz (c:UInt8):∀l:List UInt8,0<l.count c->∃i:Nat,BB l c=i/\i<l.length/\FL.prt c l=l.take i::FL.prt c (l.drop (i+1))/\l.count c=(l.drop (i+1)).count c+1
 |[],h=>by simp at h
 |x::l,h=>by
  by_cases hx:x=c
  .subst hx;refine⟨0,?_,by simp,?_,?_⟩
   .rw[BB,if_pos (by simp)];rfl
   .rw[FL.prt,if_pos rfl];rfl
   .rw[SG];rfl
  .rw[Oo hx]at h ⊢;obtain⟨i,h1,h2,h3,h4⟩:=zTz c l h;have hb:(x==c)=false:=beq_eq_false_iff_ne.2 hx;refine⟨i+1,?_,by rw[aZ];omega,?_,h4⟩
   .rw[BB,hb,if_neg (by decide),h1,if_neg (by
     intro hh;have:=beq_iff_eq.1 hh;omega)]
    push_cast;rfl
   .rw[FL.prt,if_neg hx,h3];rfl
theorem zRP (s:ByteArray)(i:Nat):bl (s.extract 0 i)=(bl s).take i:=by rw[zPH,ww]
theorem zQC (s:ByteArray)(i:Nat):bl (s.extract i s.size)=(bl s).drop i:=by
 rw[zPH,bD (by rw[zOW];exact bM _)]
def zYP (s:ByteArray)(c:UInt8)(v:Value)(h':Eng.Heap):Prop:=∃a ws,v= .slice a ws.length ws.length/\Row h' a (zPD ws)/\ws.map bl=FL.prt c (bl s)
theorem zSq (s:ByteArray)(c:UInt8)(h:Eng.Heap)(hs:s.size<=100000):
 ak aF 125 #[.string s,.string ⟨#[c]⟩,.int .i64 0,.int .i64 (-1)] h (fun v h'=>zYP s c v h'/\Ext h h'):=by
 have hne:¬((⟨#[c]⟩:ByteArray)=⟨#[]⟩):=fun e=>by
  have:=congrArg (fun b:ByteArray=>b.size) e;simp[ByteArray.size]at this
 have hsz:(⟨#[c]⟩:ByteArray).size=1:=rfl
 (refine Rm Tryz.func125 rfl zXR ?_;simp only[Tryz.ntmps125,Tryz.results125,coreS,U1,splice,aC,af,Nat.reduceAdd,Nat.reduceSub,Nat.reduceMul,Nat.reduceLeDiff,Int.reduceEq,Nat.reduceEqDiff,zOH])
 simp only[hne,decide_false,coreS,aC,af,Nat.reduceAdd,Nat.reduceSub,Nat.reduceMul,Nat.reduceLeDiff,Int.reduceEq,Nat.reduceEqDiff,zOH];refine⟨fun _=> ?_,fun hh=>absurd (by decide) hh⟩;refine ak.mono (zUt s c h) ?_;rintro v h1 ⟨rfl,rfl⟩;obtain⟨K,hK⟩:∃K,K=(bl s).count c:=⟨_,rfl⟩;have hK2:zba s.data.toList c=K:=hK.symm;have hKl:K<=s.size:=by rw[hK,<-zOW];exact AL
 have emn:(if(s.size:Int)+1<((K:Nat):Int)+1 then(s.size:Int)+1 else((K:Nat):Int)+1)=((K+1:Nat):Int):=by split<;>omega
 have es:((K+1:Nat):Int)-1=(K:Int):=by omega
 rw[hK2];simp only[emn,es,bi,coreS,aC,af,Nat.reduceAdd,Nat.reduceSub,Nat.reduceMul,Nat.reduceLeDiff,Int.reduceEq,Nat.reduceEqDiff,zOH];refine⟨by rw[zBS];omega,by rw[zBS];omega,by omega,by omega,by omega,by omega,by rw[zBS];omega,?_⟩;have q1:(h1.push (.cells (bQ (K+1) [zR ⟨#[]⟩]).flatten.toArray 9))[h1.size]? =some (.cells (zPD (bQ (K+1) ⟨#[]⟩)).toArray 9):=by
  rw[jD];congr 3;simp[zPD]
 refine zAi [0,10,11,34,35,36,37,38,39,40,41,42,43,44,45,46,47,48,49,50,51,52,53,54,55,56,57] (fun e h'=>Ext h1 h'/\∃(i:Nat) (r:ByteArray) (done:List ByteArray),i<=K/\e 10= .int .i64 i/\e 0= .string r/\done.length=i/\FL.prt c (bl s)=done.map bl++FL.prt c (bl r)/\(bl r).count c+i=K/\r.size<=s.size/\h'[h1.size]? =some (.cells (zPD (done++bQ (K+1-i) ⟨#[]⟩)).toArray 9)) (fun e _=>match e 10 with| .int _ q=>K-q.toNat|_=>0) ⟨(Ext.refl h1).push _,0,s,[],by omega,rfl,rfl,rfl,rfl,by omega,bM _,q1⟩ ?_;rintro e h2 ⟨x2,i,r,done,hi,he,he0,hdl,hpr,hcn,hrs,hb⟩;have sl:(zPD (done++bQ (K+1-i) ⟨#[]⟩)).length=K+1:=by
  rw[zPC,cK,List.length_replicate];omega
 have sp:∀t:ByteArray,splice (zPD (done++bQ (K+1-i) ⟨#[]⟩)) i [.string t]=zPD (done++[t]++bQ (K+1-(i+1)) ⟨#[]⟩):=fun t=>by
  have e1:K+1-i=(K+1-(i+1))+1:=by omega
  rw[e1,List.replicate_succ];unfold splice zPD;rw[eF,eF,eF,ib];rw[FN (by rw[dC];exact hdl)];have e2:i+[zR t].length=(done.map zR).length+1:=by rw[dC,hdl];rfl
  rw[e2,<-List.drop_drop,List.drop_left' rfl];simp
 by_cases hin:i<K
 .have hlt:(i:Int)<(K:Int):=by omega
  have meas:K-((i:Int)+1).toNat<K-(i:Int).toNat:=by omega
  obtain⟨m,m1,m2,m3,m4⟩:=zTz c (bl r) (by omega);rw[zOW]at m2;have m1':BB r.data.toList c=m:=m1;have mn:¬((m:Nat):Int)<0:=by omega
  have em0:((m:Nat):Int)+0=(m:Int):=by omega
  have em1:((m:Nat):Int)+1=((m+1:Nat):Int):=by omega
  simp only[he,he0,hlt,decide_true,coreS,aC,af,Nat.reduceAdd,Nat.reduceSub,Nat.reduceMul,Nat.reduceLeDiff,Int.reduceEq,Nat.reduceEqDiff,zOH];refine ak.mono (zVJ r c h2) ?_;rintro v h3 ⟨rfl,rfl⟩;rw[m1'];simp only[he,he0,mn,em0,hsz,hb,decide_false,bi,coreS,aC,af,Nat.reduceAdd,Nat.reduceSub,Nat.reduceMul,Nat.reduceLeDiff,Int.reduceEq,Nat.reduceEqDiff,zOH];refine⟨by rw[zBS];omega,by omega,by omega,by omega,by omega,rfl,?_⟩;refine Oy hb (by rw[sl];first|omega|(simp only[aZ,bv];omega)) fun h4 g4 u4=> ?_
  rw[sp]at g4;simp only[he,he0,em1,hsz,bi,coreS,aC,af,Nat.reduceAdd,Nat.reduceSub,Nat.reduceMul,Nat.reduceLeDiff,Int.reduceEq,Nat.reduceEqDiff,zOH];refine⟨by rw[zBS];omega,by omega,by omega,by omega,by rw[zBS];omega,?_⟩;refine Zr (by kernel_rfl) ⟨u4.ext x2 (bM _),i+1,r.extract (m+1) r.size,done++[r.extract 0 m],by omega,by first|rfl|(push_cast;rfl),rfl,by rw[cK,hdl];rfl,?_,?_,?_,g4⟩ meas
  .rw[hpr,m3,eF,zQC,List.append_assoc];congr 1;rw[ib,xW,zRP];rfl
  .rw[zQC];omega
  .rw[zQE _ _ _ (by omega) (bM _)];omega
 obtain rfl:i=K:=by omega
 simp only[he,he0,hb,show¬((i:Int)<(i:Int)) by omega,decide_false,bi,coreS,aC,af,Nat.reduceAdd,Nat.reduceSub,Nat.reduceMul,Nat.reduceLeDiff,Int.reduceEq,Nat.reduceEqDiff,zOH];refine⟨by omega,rfl,?_⟩;refine Oy hb (by rw[sl];first|omega|(simp only[aZ,bv];omega)) fun h4 g4 u4=> ?_
 rw[sp,show i+1-(i+1)=0 by omega,List.replicate_zero,bL]at g4;have ei1:((i:Int)+1)=((i+1:Nat):Int):=by omega
 simp only[he,ei1,bi,coreS,aC,af,Nat.reduceAdd,Nat.reduceSub,Nat.reduceMul,Nat.reduceLeDiff,Int.reduceEq,Nat.reduceEqDiff,zOH];have hfin:FL.prt c (bl r)=[bl r]:=by
  have h1:=zRX c (bl r);refine FL.zQr c (bl r) fun hm=> ?_
  have:=List.count_pos_iff.2 hm;omega
 refine⟨by rw[zBS];omega,by omega,by omega,by omega,by omega,⟨some ⟨h1.size,0,none⟩,done++[r],?_,Row.block g4,?_⟩,u4.ext x2 (bM _)⟩
 .have e1:(((i+1:Nat):Int)-((0:Nat):Int)).toNat=i+1:=by omega
  have e2:(done++[r]).length=i+1:=by rw[cK,hdl];rfl
  rw[e1,e2,ite_self]
 .rw[hpr,hfin,eF];rfl
theorem zS6 (s:ByteArray)(c:UInt8)(h:Eng.Heap)(hs:s.size<=100000):
 ak aF 69 #[.string s,.string ⟨#[c]⟩] h (fun v h'=>zYP s c v h'/\Ext h h'):=by
 (refine Rm Tryz.func69 rfl zYr ?_;simp only[Tryz.ntmps69,Tryz.results69,coreS,U1,splice,aC,af,Nat.reduceAdd,Nat.reduceSub,Nat.reduceMul,Nat.reduceLeDiff,Int.reduceEq,Nat.reduceEqDiff])
 refine ak.mono (zSq s c h hs) ?_;rintro v h1 ⟨S,x1⟩;simp only[coreS,aC,af,Nat.reduceAdd,Nat.reduceSub,Nat.reduceMul,Nat.reduceLeDiff,Int.reduceEq,Nat.reduceEqDiff];exact⟨S,x1⟩
def zPP (s:ByteArray)(c:UInt8):Bool:=decide (0<s.size/\at_ s (s.size-1)=c.toNat)
theorem zUE (s:ByteArray)(c:UInt8):zPP s c=true<->s.extract (s.size-1) s.size=⟨#[c]⟩:=by
 unfold zPP;rw[decide_eq_true_eq];constructor
 .rintro⟨h0,h1⟩;apply zQD;rw[zQC];have h2:=lG (l:=bl s) (i:=s.size-1) (by rw[zOW];omega);rw[h2,List.drop_eq_nil_of_le (by rw[zOW];omega)];have h3:(bl s)[s.size-1]'(by rw[zOW];omega)=c:=by
   apply GA.1;rw[<-h1];unfold at_;rw[zOv,bn,aY (by rw[zOW];omega)];rfl
  rw[h3];rfl
 .intro h;have h1:=congrArg bl h;rw[zQC]at h1;have h0:0<s.size:=by
   have:=congrArg Ma h1;rw[mI,zOW]at this;have h2:(bl ⟨#[c]⟩).length=1:=rfl;omega
  refine⟨h0,?_⟩;rw[lG (by rw[zOW];omega)]at h1;have h2:(bl s)[s.size-1]'(by rw[zOW];omega)=c:=by
   have:=List.head_eq_of_cons_eq h1;exact this
  unfold at_;rw[zOv,bn,aY (by rw[zOW];omega),<-h2];rfl
theorem zSQ (s:ByteArray)(c:UInt8)(h:Eng.Heap)(hs:s.size<=100000):ak aF 178 #[.string s,.string ⟨#[c]⟩] h (fun v h'=>v= .bool (zPP s c)/\h'=h):=by
 have hsz:(⟨#[c]⟩:ByteArray).size=1:=rfl
 (refine Rm Tryz.func178 rfl zX1 ?_;simp only[Tryz.ntmps178,Tryz.results178,coreS,U1,splice,aC,af,Nat.reduceAdd,Nat.reduceSub,Nat.reduceMul,Nat.reduceLeDiff,Int.reduceEq,Nat.reduceEqDiff,ed])
 by_cases h1:0<s.size
 .have h1i:((1:Nat):Int)<=(s.size:Int):=by omega
  have e1:(s.size:Int)-((1:Nat):Int)=((s.size-1:Nat):Int):=by omega
  simp only[hsz,h1i,e1,zOb,decide_true,bi,coreS,aC,af,Nat.reduceAdd,Nat.reduceSub,Nat.reduceMul,Nat.reduceLeDiff,Int.reduceEq,Nat.reduceEqDiff,ed];have hd:decide (s.extract (s.size-1) s.size=⟨#[c]⟩)=zPP s c:=by
   rw[Bool.eq_iff_iff,decide_eq_true_eq];exact(zUE s c).symm
  simp only[hd];refine⟨by rw[zBS];omega,?_⟩
  repeat (refine aD (by first|omega|(rw[zBS];omega)|rfl|assumption) ?_)
  first|omega|rfl|trivial
 .have h1i:¬((1:Nat):Int)<=(s.size:Int):=by omega
  have hf:zPP s c=false:=by
   unfold zPP;rw[decide_eq_false];exact fun hh=>h1 hh.1
  simp only[hsz,h1i,zOb,hf,decide_false,coreS,aC,af,Nat.reduceAdd,Nat.reduceSub,Nat.reduceMul,Nat.reduceLeDiff,Int.reduceEq,Nat.reduceEqDiff,ed]
theorem zSo (s:ByteArray)(c:UInt8)(h:Eng.Heap)(hs:s.size<=100000):ak aF 68 #[.string s,.string ⟨#[c]⟩] h (fun v h'=>v=(if zPP s c then .tuple #[.string (s.extract 0 (s.size-1)),.bool true]else .tuple #[.string s,.bool false])/\h'=h):=by
 have hsz:(⟨#[c]⟩:ByteArray).size=1:=rfl;have c121:ak aF 124 #[.string s,.string ⟨#[c]⟩] h (fun v h'=>v=(if zPP s c then .tuple #[.string (s.extract 0 (s.size-1)),.bool true]else .tuple #[.string s,.bool false])/\h'=h):=by
  (refine Rm Tryz.func124 rfl zXQ ?_;simp only[Tryz.ntmps124,Tryz.results124,coreS,U1,splice,aC,af,Nat.reduceAdd,Nat.reduceSub,Nat.reduceMul,Nat.reduceLeDiff,Int.reduceEq,Nat.reduceEqDiff,ed])
  refine ak.mono (zSQ s c h hs) ?_;rintro v h1 ⟨rfl,rfl⟩;cases hb:zPP s c with
  |false=>
   simp only[bP,kC,if_false,coreS,aC,af,Nat.reduceAdd,Nat.reduceSub,Nat.reduceMul,Nat.reduceLeDiff,Int.reduceEq,Nat.reduceEqDiff,ed]
  |true=>
   have h0:0<s.size:=by
    unfold zPP at hb;exact(of_decide_eq_true hb).1
   have e1:(s.size:Int)-((1:Nat):Int)=((s.size-1:Nat):Int):=by omega
   simp only[hsz,e1,bE,if_true,bi,coreS,aC,af,Nat.reduceAdd,Nat.reduceSub,Nat.reduceMul,Nat.reduceLeDiff,Int.reduceEq,Nat.reduceEqDiff,ed];refine⟨by rw[zBS];omega,?_,?_,?_⟩
   .simp
   .simp
   .omega
 (refine Rm Tryz.func68 rfl zYq ?_;simp only[Tryz.ntmps68,Tryz.results68,coreS,U1,splice,aC,af,Nat.reduceAdd,Nat.reduceSub,Nat.reduceMul,Nat.reduceLeDiff,Int.reduceEq,Nat.reduceEqDiff])
 refine ak.mono c121 ?_;rintro v h1 ⟨rfl,rfl⟩;cases hb:zPP s c with
 |false=>simp only[kC,if_false,coreS,aC,af,Nat.reduceAdd,Nat.reduceSub,Nat.reduceMul,Nat.reduceLeDiff,Int.reduceEq,Nat.reduceEqDiff]
 |true=>simp only[if_true,coreS,aC,af,Nat.reduceAdd,Nat.reduceSub,Nat.reduceMul,Nat.reduceLeDiff,Int.reduceEq,Nat.reduceEqDiff]
end Go.Proofs.YtejmkibjpaoahaaGreatDoor
end
section
namespace Go.Proofs.YtejmkibjpaoahaaGreatDoor
open Go Go.Proofs Go.Eng
set_option maxRecDepth 100000
set_option linter.unusedSimpArgs false
set_option linter.unusedVariables false
set_option linter.defProp false
theorem zZR {b:UInt8}(h:isD b=true):txt b=true:=by
 have:=zPa.1 h;unfold txt;rw[decide_eq_true this.1,decide_eq_true this.2];simp
theorem zZQ:txt 32=true:=rfl
theorem zVQ (c:UInt8):∀(ws:List (List UInt8)) (b:UInt8),b∈FL.jn c ws->b=c\/∃w∈ws,b∈w
 |[],b,h=>by cases h
 |[w],b,h=> .inr ⟨w,dn,h⟩
 |w::v::ws,b,h=>by
  have h:b∈w++c::FL.jn c (v::ws):=h;rcases ol.1 h with h|h
  .exact .inr ⟨w,dn,h⟩
  .rcases ek.1 h with h|h
   .exact .inl h
   .rcases zVQ c (v::ws) b h with h|⟨u,hu,h⟩
    .exact .inl h
    .exact .inr ⟨u,cZ _ hu,h⟩
theorem zTR (ns:List Nat)(b:UInt8)(h:b∈zOz ns):txt b=true:=by
 rcases zVQ 32 _ b h with rfl|⟨w,hw,hb⟩
 .exact zZQ
 .obtain⟨n,_,rfl⟩:=gL.1 hw;exact zZR (zQa n b hb)
theorem zTl (n:Nat):0<(dgb n).length:=xK.2 (zR1 n).1
theorem zT8 (c:UInt8):∀ws:List (List UInt8),ws≠[]->(FL.jn c ws).length+1=(ws.map Ma).sum+ws.length
 |[],h=>absurd rfl h
 |[w],_=>by
  show w.length+1=_;simp
 |w::v::ws,_=>by
  have ih:=zT8 c (v::ws) (by simp);show(w++c::FL.jn c (v::ws)).length+1=_;rw[cK,aZ,ib,Ze,aZ];omega
theorem zTQ {ns:List Nat}(h:ns≠[]):0<(zOz ns).length:=by
 match ns,h with
 |[n],_=>exact zTl n
 |n::m::ns,_=>
  show 0<(dgb n++32::FL.jn 32 (dgb m::ns.map dgb)).length;rw[cK];have:=zTl n;omega
def bs (l:List UInt8):ByteArray:=⟨l.toArray⟩
theorem zPG (l:List UInt8):bl (bs l)=l:=by simp[bl,bs]
theorem zWm (s:ByteArray):bs (bl s)=s:=zQD (zPG _)
theorem zP4 (l:List UInt8):(bs l).size=l.length:=by rw[<-zOW,zPG]
theorem zQw (l m:List UInt8):bs l++bs m=bs (l++m):=zQD (by rw[zQU,zPG,zPG,zPG])
theorem zW8 {l:List UInt8}(h0:0<l.length)(h:l.length<=12)(ht:∀b∈l,txt b=true):text (bs l)=true:=by
 unfold text;rw[zP4,decide_eq_true ⟨h0,h⟩,XF,dS];intro b hb;have:b∈bl (bs l):=hb;rw[zPG]at this;exact ht b this
theorem zRk (l:List UInt8):zPo (bs l)=bs [sgL l]:=by
 unfold zPo sgL bs;have e:sumTo (bs l) (bs l).size=zPg l l.length:=by
  rw[zQt,zPG,zP4]
 unfold bs at e;rw[e]
theorem zTm:∀(k n:Nat),n<10^(k+1)->(FL.dgt n).length<=k+1
 |0,n,h=>by
  rw[FL.dgt,dif_pos (by simpa using h)];simp
 |k+1,n,h=>by
  rw[FL.dgt];split
  .simp
  .have ih:=zTm k (n/10) (by rw[Nat.div_lt_iff_lt_mul (by decide)];rw[Nat.pow_succ]at h;exact h);rw[cK,zM];omega
theorem zPj {k n:Nat}(h:n<10^(k+1)):(dgb n).length<=k+1:=by rw[zTZ];exact zTm k n h
def eN (e:En):List Nat:=[e.d.toNat,e.f.toNat,e.t.toNat,e.a.toNat]
def zPJ (es:List En):Int:=(es.map fun e=>e.a).sum
def zP7 (k cl:Nat)(es:List En):List UInt8:=zPt [k,cl]++(es.flatMap fun e=>zPt (eN e))++zPt [es.length,(zPJ es).toNat]
theorem zQI {acc:Int}:∀{es:List En},(∀e∈es,okE acc e)->0<=zPJ es/\zPJ es<=1000*(es.length:Int)
 |[],_=>by simp[zPJ]
 |e::es,h=>by
  have ih:=zQI (es:=es) fun x hx=>h x (cZ _ hx)
  have h1:=(h e dn).2.2.2;have e1:zPJ (e::es)=e.a+zPJ es:=by unfold zPJ;rw[ib,Ze]
  rw[e1,aZ];omega
theorem zQp {a b:Nat}(ha:a<100)(hb:b<1000000):(zOz [a,b]).length<=12:=by
 have h1:=zPj (k:=1) (n:=a) (by omega);have h2:=zPj (k:=5) (n:=b) (by omega);have h3:=zT8 32 [dgb a,dgb b] (by simp);have e:zOz [a,b]=FL.jn 32 [dgb a,dgb b]:=rfl;rw[e];simp at h3;omega
theorem zRB {k:Int}{e:En}(hk:k<=8)(h:okE k e):(zOz (eN e)).length<=12:=by
 obtain⟨h1,h2,h3,h4⟩:=h;have a1:=zPj (k:=1) (n:=e.d.toNat) (by omega);have a2:=zPj (k:=0) (n:=e.f.toNat) (by omega);have a3:=zPj (k:=0) (n:=e.t.toNat) (by omega);have a4:=zPj (k:=3) (n:=e.a.toNat) (by omega);have h3:=zT8 32 [dgb e.d.toNat,dgb e.f.toNat,dgb e.t.toNat,dgb e.a.toNat] (by simp);have e:zOz (eN e)=FL.jn 32 [dgb e.d.toNat,dgb e.f.toNat,dgb e.t.toNat,dgb e.a.toNat]:=rfl;rw[e];simp at h3;omega
theorem zPz {ns:List Nat}(h:(zOz ns).length<=12):(zPt ns).length<=15:=by
 unfold zPt zPA;rw[cK,cK];simp;omega
theorem zXn (ns:List Nat):bs (zOz ns)++bs [32]++bs [sgL (zOz ns)]++bs [10]=bs (zPt ns):=by
 rw[zQw,zQw,zQw];congr 1;unfold zPt zPA;simp
theorem zVD {k:Int}{es:List En}(hk:k<=8)(h:∀e∈es,okE k e):(es.flatMap fun e=>zPt (eN e)).length<=15*es.length:=by
 induction es with
 |nil=>simp
 |cons e es ih=>
  have h1:=zPz (zRB hk (h e dn));have h2:=ih fun x hx=>h x (cZ _ hx)
  rw[uA,cK,aZ];omega
end Go.Proofs.YtejmkibjpaoahaaGreatDoor
end
section
namespace Go.Proofs.YtejmkibjpaoahaaGreatDoor
open Go Go.Proofs Go.Eng Go.Run Tab
set_option maxRecDepth 100000
set_option linter.unusedSimpArgs false
set_option linter.unusedVariables false
set_option linter.defProp false
set_option maxHeartbeats 2000000
set_option linter.defProp false
def zOQ:=(aD (aD (aD @zPd @by2) (aD @by9 (aD @zP0 @zVM))) (aD (aD @sz2 @sz9) (aD @zVh (aD @Tryz.underlying48 @Tryz.underlying139))))
def zOd:=(aD (aD (aD @zPd @zQ4) (aD @zQi (aD @zQz @zP0))) (aD (aD @zPK @sz2) (aD @zQA (aD @zPi @Tryz.underlying33))))
def nzF (l:List Nat):List Int:=l.map fun j:Nat=>(j:Int)
theorem zOf (l:List Nat):(nzF l).length=l.length:=by simp[nzF]
theorem zQq {l:List Nat}{i:Nat}:(nzF l).getD i 0=((l.getD i 0:Nat):Int):=by
 unfold nzF;rw[bn,List.getElem?_map,bn];cases l[i]? <;>rfl
theorem zYT {h:Eng.Heap}{er:Env}{ty:TypeId}{m0:Nat}{x y:Operand}{a b:Option Addr}{len cap m c:Nat}{xs ys:List ByteArray}{K:Value->Eng.Heap->Prop}(hx:ev er x= .slice a len cap)(hy:ev er y= .slice b m c)(O:iV m0 h 9 1 a len cap (zPD xs))(h0h:m0<=h.size)(I:Row h b (zPD ys))(hm:m=ys.length)(hb:len+m<=1000)
 (H:∀a' cap' h',iV m0 h' 9 1 a' (len+m) cap' (zPD (xs++ys))->App h h' a a'->K (.slice a' (len+m) cap') h'):aI aF (.call ⟨.builtin .append,#[x,y],#[139,139]⟩) ty er h K:=
 WZ Ic Ic zVM sz9 zVh (by rfl) hx hy O h0h I (by rw[zPC];omega) (fun u hu=>by
  obtain⟨x,_,rfl⟩:=gL.1 hu;rfl) (by omega) (by rw[by9];omega) fun a' cap' h' O' A'=>H a' cap' h' (by
   have e:zPD xs++zPD ys=zPD (xs++ys):=by simp[zPD]
   rw[<-e];exact O') A'
def wrd (n:Nat):ByteArray:=bs (dgb n)
theorem zSv (n:Nat):(⟨(zaB (n:Int)).toArray⟩:ByteArray)=wrd n:=by rw[zVP];rfl
theorem zTS {ns:List Nat}(h0:ns≠[])(h12:(zOz ns).length<=12):text (bs (zOz ns))=true:=zW8 (zTQ h0) h12 (zTR ns)
theorem zWu:(⟨#[32]⟩:ByteArray).size=1:=rfl
theorem zZh:(⟨#[10]⟩:ByteArray).size=1:=rfl
theorem zTa (a:Option Addr)(m c:Nat)(ns:List Nat)(h:Eng.Heap)(F:Fx h)(I:eu h a m (nzF ns))(h0:ns≠[])(h12:(zOz ns).length<=12)(hb:∀n∈ns,n<=1000000)(hn:ns.length<=100):
 ak aF 65 #[.slice a m c] h (fun v h'=>v= .string (bs (zPt ns))/\Ext h h'):=by
 have hm:=I.len;rw[zOf]at hm;have h0l:=xK.2 h0
 (refine Rm Tryz.func65 rfl zYo ?_;simp only[Tryz.ntmps65,Tryz.results65,coreS,U1,splice,aC,af,Nat.reduceAdd,Nat.reduceSub,Nat.reduceMul,Nat.reduceLeDiff,Int.reduceEq,Nat.reduceEqDiff,zOQ])
 refine zAi [3,5,9,10,11,12,13,14,15,16,17,18] (fun e h'=>Ext h h'/\∃i:Nat,i<=m/\e 9= .int .i64 i/\∃aW cW,e 3= .slice aW i cW/\iV h.size h' 9 1 aW i cW (zPD ((ns.take i).map wrd))) (fun e _=>match e 9 with| .int _ q=>m-q.toNat|_=>0) ⟨Ext.refl _,0,by omega,rfl,none,0,rfl,iV.nil _ _ _ _⟩ ?_;rintro e h1 ⟨x1,i,hi,he,aW,cW,heW,OW⟩;by_cases him:i<m
 .have hlt:(i:Int)<(m:Int):=by omega
  have meas:m-((i:Int)+1).toNat<m-(i:Int).toNat:=by omega
  have ci:=(I.ext x1).cell (j:=i) (by rw[zOf];omega);have si:=I.isSome (by rw[zOf];omega);rw[zQq]at ci;obtain⟨n,hne⟩:∃n,n=ns.getD i 0:=⟨_,rfl⟩;have hnm:n∈ns:=by rw[hne,bn,aY (by omega)];exact bS _
  have hnb:=hb n hnm;rw[<-hne]at ci;simp only[he,heW,hlt,ci,decide_true,bi,coreS,aC,af,Nat.reduceAdd,Nat.reduceSub,Nat.reduceMul,Nat.reduceLeDiff,Int.reduceEq,Nat.reduceEqDiff,zOQ];refine⟨by omega,si,?_⟩;refine ak.mono (zXf (n:Int) h1 (F.ext x1) (by omega) (by omega)) ?_;rintro v h2 ⟨rfl,x2⟩;rw[zSv];have x3:Ext h2 (h2.push (.cells #[.string (wrd n)] 9)):=(Ext.refl h2).push _;simp only[he,heW,coreS,aC,af,Nat.reduceAdd,Nat.reduceSub,Nat.reduceMul,Nat.reduceLeDiff,Int.reduceEq,Nat.reduceEqDiff,zOQ];refine zYT (m0:=h.size) (m:=1) (ys:=[wrd n]) rfl rfl ((OW.ext x2).ext x3) ((x1.trans x2).trans x3).size (Row.block (c:=zPD [wrd n]) jD) rfl (by omega) fun a' cap' h4 O4 A4=> ?_
  have et:(ns.take i).map wrd++[wrd n]=(ns.take (i+1)).map wrd:=by
   rw[mM,aY (by omega),eF,hne,bn,aY (by omega)];rfl
  rw[et]at O4;simp only[he,coreS,aC,af,Nat.reduceAdd,Nat.reduceSub,Nat.reduceMul,Nat.reduceLeDiff,Int.reduceEq,Nat.reduceEqDiff,zOQ];exact⟨by rw[zBS];omega,Zr (by kernel_rfl) ⟨A4.extV ((OW.ext x2).ext x3) ((x1.trans x2).trans x3) (bM _),i+1,by omega,rfl,a',cap',rfl,O4⟩ meas⟩
 obtain rfl:m=i:=by omega
 rw[bD (by omega)]at OW;simp only[he,heW,show¬((m:Int)<(m:Int)) by omega,decide_false,coreS,aC,af,Nat.reduceAdd,Nat.reduceSub,Nat.reduceMul,Nat.reduceLeDiff,Int.reduceEq,Nat.reduceEqDiff,zOQ];have hcap:=OW.cap;obtain⟨g,hg⟩:∃g,aW=some ⟨g,0,none⟩:=by
  rcases OW.ok with⟨_,hz,_⟩|⟨g,cur,hg,_⟩
  .omega
  .exact⟨g,hg⟩
 subst hg;have hml:(ns.map wrd).length=m:=by rw[dC];omega
 have hmd:(ns.map wrd).map (·.data.toList)=ns.map dgb:=by
  rw[ql];exact lC fun n _=>zPG (dgb n)
 have j1:=zWJ g 0 cW (ns.map wrd) 32 h1 OW.row (by omega) (by omega) (by omega) (by
  rw[hmd];show(zOz ns).length<=_;omega)
 rw[hml,hmd]at j1;refine ak.mono j1 ?_;rintro v h2 ⟨rfl,x2⟩;have ht:=zTS h0 h12;have ev:(⟨(FL.jn 32 (ns.map dgb)).toArray⟩:ByteArray)=bs (zOz ns):=rfl;rw[ev];simp only[zP4,Od,zWu,coreS,aC,af,Nat.reduceAdd,Nat.reduceSub,Nat.reduceMul,Nat.reduceLeDiff,Int.reduceEq,Nat.reduceEqDiff,zOQ];refine⟨by omega,?_⟩;refine ak.mono (zS5 (bs (zOz ns)) h2 ht) ?_;rintro v h3 ⟨rfl,x3⟩;rw[zRk];simp only[zP4,Od,zWu,zZh,aZ,bv,coreS,aC,af,Nat.reduceAdd,Nat.reduceSub,Nat.reduceMul,Nat.reduceLeDiff,Int.reduceEq,Nat.reduceEqDiff,zOQ];exact⟨by omega,by omega,congrArg zR (zXn ns),(x1.trans x2).trans x3⟩
theorem zUd {es:List En}{i:Nat}(hi:i<es.length):zPJ (es.take (i+1))=zPJ (es.take i)+es[i].a:=by
 unfold zPJ;rw[zP2 hi,eF,List.sum_append];simp
theorem zUN (a:Option Addr)(n c:Nat)(es:List En)(h:Eng.Heap)(hr:Row h a (zOS es))(hn:n=es.length)(hl:n<=1000)(hb:∀e∈es,0<=e.a/\e.a<=1000000):
 ak aF 66 #[.slice a n c] h (fun v h'=>v= .int .i64 (zPJ es)/\Ext h h'):=by
 have tb:∀es:List En,(∀e∈es,0<=e.a/\e.a<=1000000)->0<=zPJ es/\zPJ es<=1000000*(es.length:Int):=fun es=>by
  induction es with
  |nil=>intro _;simp[zPJ]
  |cons e es ih=>
   intro h;have h1:=h e dn;have h2:=ih fun x hx=>h x (cZ _ hx)
   have e1:zPJ (e::es)=e.a+zPJ es:=by unfold zPJ;rw[ib,Ze]
   rw[e1,aZ];omega
 (refine Rm Tryz.func66 rfl zYp ?_;simp only[Tryz.ntmps66,Tryz.results66,coreS,U1,splice,aC,af,Nat.reduceAdd,Nat.reduceSub,Nat.reduceMul,Nat.reduceLeDiff,Int.reduceEq,Nat.reduceEqDiff,zOd])
 refine zAi [3,5,8,9,10,11,12,13,14,15,16] (fun e h'=>Ext h h'/\∃i:Nat,i<=n/\e 8= .int .i64 i/\e 3= .int .i64 (zPJ (es.take i))) (fun e _=>match e 8 with| .int _ q=>n-q.toNat|_=>0) ⟨Ext.refl _,0,by omega,rfl,rfl⟩ ?_;rintro e h1 ⟨x1,i,hi,he,he3⟩;by_cases hin:i<n
 .have hlt:(i:Int)<(n:Int):=by omega
  have meas:n-((i:Int)+1).toNat<n-(i:Int).toNat:=by omega
  have hie:i<es.length:=by omega
  have hce:=zRj (hr.ext x1) hie;have sa:=hr.isSome (by rw[zOI];omega);have t1:=tb (es.take i) fun x hx=>hb x (eB hx)
  have t2:=tb (es.take (i+1)) fun x hx=>hb x (eB hx)
  rw[eD]at t1 t2;have tn:=zUd hie;simp only[he,he3,hlt,hce,decide_true,bi,coreS,aC,af,Nat.reduceAdd,Nat.reduceSub,Nat.reduceMul,Nat.reduceLeDiff,Int.reduceEq,Nat.reduceEqDiff,zOd];refine⟨by omega,sa,?_⟩;refine Oy jD (by simp) fun h2 g2 u2=> ?_
  simp only[splice,dL,dG,bK,bL,aZ,bv]at g2;have x2:Ext h1 h2:=u2.ext ((Ext.refl h1).push _) (bM _);simp only[he,he3,g2,coreS,aC,af,Nat.reduceAdd,Nat.reduceSub,Nat.reduceMul,Nat.reduceLeDiff,Int.reduceEq,Nat.reduceEqDiff,zOd];exact⟨by rw[zBS];omega,by rw[zBS];omega,Zr (by kernel_rfl) ⟨x1.trans x2,i+1,by omega,rfl,by rw[tn];rfl⟩ meas⟩
 obtain rfl:n=i:=by omega
 rw[bD (by omega)]at he3;simp only[he,he3,show¬((n:Int)<(n:Int)) by omega,decide_false,coreS,aC,af,Nat.reduceAdd,Nat.reduceSub,Nat.reduceMul,Nat.reduceLeDiff,Int.reduceEq,Nat.reduceEqDiff,zOd];exact x1
end Go.Proofs.YtejmkibjpaoahaaGreatDoor
end
section
namespace Go.Proofs.YtejmkibjpaoahaaGreatDoor
open Go Go.Proofs Go.Eng Go.Run Tab
section
variable {w:List UInt8}
set_option maxRecDepth 100000
set_option linter.unusedSimpArgs false
set_option linter.unusedVariables false
set_option linter.defProp false
set_option maxHeartbeats 2000000
theorem zWc {b:UInt8}(h:txt b=true)(h2:b≠32):isD b=true:=by
 unfold txt at h;have:(b==32)=false:=beq_eq_false_iff_ne.2 h2;rw[this,Bool.false_or]at h;rw[zPa];simpa using h
theorem zUJ (c:UInt8):∀(l w:List UInt8) (b:UInt8),w∈FL.prt c l->b∈w->b∈l
 |[],w,b,h,hb=>by
  rw[FL.prt,fe]at h;rw[h]at hb;exact hb
 |x::l,w,b,h,hb=>by
  have ih:=zUJ c l;rw[FL.prt]at h;split at h
  .rcases ek.1 h with h|h
   .rw[h]at hb;cases hb
   .exact cZ _ (ih w b h hb)
  .cases hp:FL.prt c l with
   |nil=>exact absurd hp (FL.zQS c l)
   |cons v ws=>
    rw[hp]at h ih;rcases ek.1 h with h|h
    .rw[h]at hb;rcases ek.1 hb with rfl|hb
     .exact dn
     .exact cZ _ (ih v b dn hb)
    .exact cZ _ (ih w b (cZ _ h) hb)
theorem zRh (c:UInt8)(l:List UInt8)(h:w∈FL.prt c l):w.length<=l.length:=by
 induction l generalizing w with
 |nil=>
  rw[FL.prt,fe]at h;rw[h];exact bM _
 |cons x l ih=>
  rw[FL.prt]at h;rw[aZ];split at h
  .rcases ek.1 h with h|h
   .rw[h,bv];omega
   .have:=ih h;omega
  .cases hp:FL.prt c l with
   |nil=>exact absurd hp (FL.zQS c l)
   |cons v ws=>
    rw[hp]at h ih;rcases ek.1 h with h|h
    .have:=ih (w:=v) dn;rw[h,aZ];omega
    .have:=ih (w:=w) (cZ _ h);omega
theorem zUf (w:List UInt8){i:Nat}(hi:i<w.length):zP3 (w.take (i+1))=10*zP3 (w.take i)+((w.getD i 0).toNat-48):=by
 unfold zP3 dvs;rw[mM,aY hi,eF,bn,aY hi];exact FL.zQu _ _
theorem zQh (w:List UInt8):∀i,i<=w.length->(∀j,j<i->isD (w.getD j 0)=true)->zP3 (w.take i)<10^i
 |0,_,_=>by rw[List.take_zero];decide
 |i+1,h,hd=>by
  have ih:=zQh w i (by omega) fun j hj=>hd j (by omega)
  have h1:=zPa.1 (hd i (by omega));rw[zUf w (by omega),Nat.pow_succ];omega
theorem zZJ {n i:Nat}(hi:i<=6)(h:n<10^i):n<1000000:=Nat.lt_of_lt_of_le h (by
 have:=Nat.pow_le_pow_right (n:=10) (by decide) hi;exact this)
end
end Go.Proofs.YtejmkibjpaoahaaGreatDoor
end
section
namespace Go.Proofs.YtejmkibjpaoahaaGreatDoor
open Go Go.Proofs Go.Eng Go.Run Tab
section
variable {K:Value->Eng.Heap->Prop}{P:Program}{a:Option Addr}{cap:Nat}{h:Eng.Heap}{len m:Nat}{ms:Array (String×TypeId)}{p:Value}{ty:TypeId}{ws:List ByteArray}{x:Operand}
set_option maxRecDepth 100000
set_option linter.unusedSimpArgs false
set_option linter.unusedVariables false
set_option linter.defProp false
set_option maxHeartbeats 2000000
set_option linter.defProp false
def zOB:=(aD (aD (aD @zWz @by3) (aD @by9 (aD @zPs @zVM))) (aD (aD @sz3 (aD @sz9 @zRm)) (aD @Tryz.underlying9 (aD @Tryz.underlying29 @Tryz.underlying139))))
theorem zXB {er:Env}{m0:Nat}{y:Operand}{b:Option Addr}{c:Nat}{xs ys:List Int}(hx:ev er x= .slice a len cap)(hy:ev er y= .slice b m c)(O:eG m0 h 3 a len cap xs)(h0h:m0<=h.size)(I:eu h b m ys)(hb:len+m<=100000)(H:∀a' cap' h',eG m0 h' 3 a' (len+m) cap' (xs++ys)->App h h' a a'->K (.slice a' (len+m) cap') h'):aI aF (.call ⟨.builtin .append,#[x,y],#[29,29]⟩) ty er h K:=
 WW zaj zaj zPs sz3 (by rw[by3];decide) zRm hx hy O h0h I hb H
theorem zRL {m2:Nat}{h':Eng.Heap}{el el2:TypeId}{s2:Nat}{x x':Option Addr}{len2 cap2:Nat}{vs:List Int}{ws:List Value}(O:eG m h el a len cap vs)(A:App h h' x x')(P:iV m2 h el2 s2 x len2 cap2 ws)(hne:el≠el2):eG m h' el a len cap vs:=
 O.keep fun p hp=>A.old _ (O.lt hp).1 fun q hq e=>by
  rcases O.ok with⟨h1,_⟩|⟨g,cur,h1,h2,h3,_⟩
  .rw[h1]at hp;cases hp
  rcases P.ok with⟨k1,_⟩|⟨g',cur',k1,k2,k3,_⟩
  .rw[k1]at hq;cases hq
  rw[h1]at hp;rw[k1]at hq;cases hp;cases hq;have e:g'=g:=e;rw[e,h3]at k3;cases k3;exact hne rfl
def acc (p k:Nat):List Nat:=(List.range k).filter fun i=>p.testBit i
theorem zSD (R:Row h a (zPD ws)){j:Nat}(hj:j<ws.length):jL h (lg a j)=some (.string ws[j]):=by
 have h1:=R.cell (j:=j) (by rw[zPC];exact hj);rw[h1];simp[zPD]
theorem zSE (R:Row h a (zPD ws))(hj:0<ws.length):a.isSome=true:=R.isSome (by rw[zPC];exact hj)
theorem run_neq_iface_nil (w:World){t tp:TypeId}(ht:P.underlying t=some (.interface ms)):(binOp .neq t (.iface tp p) .nilIface).run P w= .ok (.bool true) w:=by
 have h:∀d:Nat,(Op.equalIn (d+1) t (.iface tp p) .nilIface).run P w= .ok false w:=fun d=>by simp[Op.equalIn,run_underlying ht]
 simp only[Go.binOp];simp[Op.equal,Op.maxDepth,h 9999]
theorem zXu {e:Eng.Env}{u yt tp:TypeId}(hu:P.underlying u=some (.interface ms)){c:Value}(hx:ev e x= .iface tp p)(hc:ev e (.const c)= .nilIface)(H:K (.bool true) h):aI P (.binOp .neq u x (.const c) yt) ty e h K:=
 aK rfl _ H fun w _=>by simp[execOp,hx,hc,eqGuard_at_iface,run_neq_iface_nil w hu]
theorem zVV {e:Eng.Env}{u yt:TypeId}(hu:P.underlying u=some (.interface ms)){c:Value}(hx:ev e x= .nilIface)(hc:ev e (.const c)= .nilIface)(H:K (.bool false) h):aI P (.binOp .neq u x (.const c) yt) ty e h K:=
 aK rfl _ H fun w _=>by simp[execOp,hx,hc,eqGuard_nil_constR,Lib.run_neq_nil_nil w hu]
theorem zUn {op:BinOp}{t:TypeId}{F:Prop}:dF op (.iface t p) .nilIface h K F=F:=by unfold dF;rfl
theorem zSi {op:BinOp}{F:Prop}:dF op .nilIface .nilIface h K F=F:=by unfold dF;rfl
def zQf (t:List UInt8)(many:Nat):Prop:=(FL.prt 32 t).length=many/\∀w∈FL.prt 32 t,zP6 w/\w.length<=6
def numsL (t:List UInt8):List Nat:=(FL.prt 32 t).map zP3
def zYO (el:TypeId)(ok:Prop)(t:List UInt8)(v:Value)(h':Eng.Heap):Prop:=(ok/\∃a c,v= .tuple #[.slice a (numsL t).length c,.bool true]/\eG 0 h' el a (numsL t).length c (nzF (numsL t)))\/(¬ok/\v= .tuple #[.slice none 0 0,.bool false])
theorem zW3 (l m:List Nat):nzF (l++m)=nzF l++nzF m:=by simp[nzF]
theorem zQZ {α:Type}(l:List α){i:Nat}(hi:i<l.length):l.take (i+1)=l.take i++[l[i]]:=by rw[mM,aY hi];rfl
theorem zTk {P:List (List UInt8)}(h:ws.map bl=P){j:Nat}(hj:j<ws.length):bl ws[j]=P[j]'(by rw[<-h,dC];exact hj):=by
 subst h;simp
theorem zRz (s:ByteArray)(many:Nat)(h:Eng.Heap)(F:Fx h)(hs:s.size<=18)(ht:∀b∈bl s,txt b=true):
 ak aF 71 #[.string s,.int .i64 many] h (fun v h'=>zYO 3 (zQf (bl s) many) (bl s) v h'/\Ext h h'):=by
 obtain⟨P,hP⟩:∃P,P=FL.prt 32 (bl s):=⟨_,rfl⟩;have hPl:=zRX 32 (bl s);have hPc:=AL (a:=(32:UInt8)) (l:=bl s);rw[zOW]at hPc;rw[<-hP]at hPl
 (refine Rm Tryz.func71 rfl zYt ?_;simp only[Tryz.ntmps71,Tryz.results71,coreS,U1,splice,aC,af,Nat.reduceAdd,Nat.reduceSub,Nat.reduceMul,Nat.reduceLeDiff,Int.reduceEq,Nat.reduceEqDiff,zOB])
 refine ak.mono (zS6 s 32 h (by omega)) ?_;rintro v h1 ⟨⟨aS,ws,rfl,RS,hws⟩,x1⟩;rw[<-hP]at hws;have hwl:ws.length=P.length:=by rw[<-hws,dC]
 have hnOK:zQf (bl s) many<->P.length=many/\∀w∈P,zP6 w/\w.length<=6:=by unfold zQf;rw[hP]
 by_cases hm:ws.length=many
 case neg=>
  have hmi:¬((ws.length:Nat):Int)=(many:Int):=by omega
  simp only[hmi,decide_false,bP,coreS,aC,af,Nat.reduceAdd,Nat.reduceSub,Nat.reduceMul,Nat.reduceLeDiff,Int.reduceEq,Nat.reduceEqDiff,zOB];exact⟨.inr ⟨fun hh=>hm (by rw[hwl];exact(hnOK.1 hh).1),rfl⟩,x1⟩
 have hmi:((ws.length:Nat):Int)=(many:Int):=by omega
 simp only[hmi,decide_true,bE,coreS,aC,af,Nat.reduceAdd,Nat.reduceSub,Nat.reduceMul,Nat.reduceLeDiff,Int.reduceEq,Nat.reduceEqDiff,zOB];have bad:∀{i:Nat} (hi:i<P.length),¬(zP6 P[i]/\P[i].length<=6)->∀h',Ext h h'->zYO 3 (zQf (bl s) many) (bl s) (.tuple #[.slice none 0 0,.bool false]) h'/\Ext h h':=fun hi hh h' x=>⟨.inr ⟨fun hk=>hh ((hnOK.1 hk).2 _ (bS hi)),rfl⟩,x⟩
 refine zAi [4,5,7,9,10,11,20,21,22,23,24,25,26,27,28,29,30,31,32,33,34,35,36,37,38,39,40,41,42,43,44,45,46] (fun e h'=>Ext h1 h'/\∃i:Nat,i<=many/\e 20= .int .i64 i/\(∀w∈P.take i,zP6 w/\w.length<=6)/\∃aW cW,e 7= .slice aW i cW/\eG h1.size h' 3 aW i cW (nzF ((P.take i).map zP3))) (fun e _=>match e 20 with| .int _ q=>many-q.toNat|_=>0) ⟨Ext.refl _,0,by omega,rfl,fun w hw=>by simp at hw,none,0,rfl,eG.nil _ _ _⟩ ?_;rintro e h2 ⟨x2,i,hi,he,hok,aW,cW,heW,OW⟩;by_cases him:i<many
 .have hlt:(i:Int)<(many:Int):=by omega
  have meas:many-((i:Int)+1).toNat<many-(i:Int).toNat:=by omega
  have hiw:i<ws.length:=by omega
  have hiP:i<P.length:=by omega
  have ci:=zSD (RS.ext x2) hiw;have si:=zSE RS (by omega);obtain⟨w,hw⟩:∃w,w=ws[i]:=⟨_,rfl⟩;have hbw:=zTk hws hiw;rw[<-hw]at ci hbw;have hwm:P[i]∈FL.prt 32 (bl s):=by rw[<-hP];exact bS hiP
  have hwl2:=zRh 32 (bl s) hwm;rw[<-hbw,zOW,zOW]at hwl2;simp only[he,heW,hlt,ci,decide_true,bi,coreS,aC,af,Nat.reduceAdd,Nat.reduceSub,Nat.reduceMul,Nat.reduceLeDiff,Int.reduceEq,Nat.reduceEqDiff,zOB];refine⟨by omega,si,?_⟩;refine ak.mono (zVj w h2 (F.ext (x1.trans x2)) (by omega)) ?_;rintro v h3 ⟨HA,x3⟩;have HB:(∃n,Rt (bl w)=some n/\v= .tuple #[.int .i64 n,.nilIface])\/(Rt (bl w)=none/\∃t p,v= .tuple #[.int .i64 0,.iface t p]):=HA;have x13:=x1.trans (x2.trans x3);rw[hbw]at HB;by_cases h0:P[i]=[]
  .rcases HB with⟨n,hn,-⟩|⟨-,tt,pp,rfl⟩
   .rw[h0,zUk]at hn;cases hn
   simp only[he,heW,zOb,coreS,aC,af,Nat.reduceAdd,Nat.reduceSub,Nat.reduceMul,Nat.reduceLeDiff,Int.reduceEq,Nat.reduceEqDiff,zOB];rw[zUn];refine zXu sF rfl rfl ?_;simp only[he,heW,zOb,coreS,aC,af,Nat.reduceAdd,Nat.reduceSub,Nat.reduceMul,Nat.reduceLeDiff,Int.reduceEq,Nat.reduceEqDiff,zOB];exact bad hiP (fun hh=>hh.1.1 h0) _ x13
  have hdg:∀b∈P[i],isD b=true:=fun b hb=>zWc (ht b (zUJ 32 (bl s) _ b hwm hb)) fun e=>FL.zV0 32 (bl s) _ hwm (e▸hb)
  rw[zSc h0 hdg]at HB;rcases HB with⟨n,hn,rfl⟩|⟨hn,-⟩
  case inr=>cases hn
  cases hn;have hsz:w.size=P[i].length:=by rw[<-hbw,zOW]
  by_cases h6:6<w.size
  .have h6i:(6:Int)<(w.size:Int):=by omega
   simp only[he,heW,zOb,coreS,aC,af,Nat.reduceAdd,Nat.reduceSub,Nat.reduceMul,Nat.reduceLeDiff,Int.reduceEq,Nat.reduceEqDiff,zOB];rw[zSi];refine zVV sF rfl rfl ?_;simp only[he,heW,h6i,zOb,decide_true,coreS,aC,af,Nat.reduceAdd,Nat.reduceSub,Nat.reduceMul,Nat.reduceLeDiff,Int.reduceEq,Nat.reduceEqDiff,zOB];exact bad hiP (fun hh=>by have:=hh.2;omega) _ x13
  have h6i:¬(6:Int)<(w.size:Int):=by omega
  simp only[he,heW,zOb,coreS,aC,af,Nat.reduceAdd,Nat.reduceSub,Nat.reduceMul,Nat.reduceLeDiff,Int.reduceEq,Nat.reduceEqDiff,zOB];rw[zSi];refine zVV sF rfl rfl ?_;simp only[he,heW,h6i,zOb,decide_false,coreS,aC,af,Nat.reduceAdd,Nat.reduceSub,Nat.reduceMul,Nat.reduceLeDiff,Int.reduceEq,Nat.reduceEqDiff,zOB];refine ak.mono (zWG (zP3 P[i]:Int) h3 (F.ext x13) (by omega) (by
   have hv:=zQh P[i] P[i].length (bM _) fun j hj=>by
    rw[bn,aY hj];exact hdg _ (bS _)
   rw[zaz]at hv;have:=zZJ (by omega) hv;omega)) ?_
  rintro v h4 ⟨rfl,x4⟩;rw[zSv];have x14:=x13.trans x4;have hwe:wrd (zP3 P[i])=w<->zP6 P[i]:=by
   rw[<-zVq hdg];unfold wrd;constructor
   .intro hh;have:=congrArg bl hh;rwa[zPG,hbw]at this
   .intro hh;apply zQD;rw[zPG,hbw,hh]
  by_cases hg:zP6 P[i]
  case neg=>
   have hne:¬wrd (zP3 P[i])=w:=fun hh=>hg (hwe.1 hh)
   simp only[he,heW,hne,zOb,decide_false,bP,coreS,aC,af,Nat.reduceAdd,Nat.reduceSub,Nat.reduceMul,Nat.reduceLeDiff,Int.reduceEq,Nat.reduceEqDiff,zOB];exact bad hiP (fun hh=>hg hh.1) _ x14
  have heq:=hwe.2 hg;have x24:=x3.trans x4;simp only[he,heW,heq,zOb,decide_true,bE,coreS,aC,af,Nat.reduceAdd,Nat.reduceSub,Nat.reduceMul,Nat.reduceLeDiff,Int.reduceEq,Nat.reduceEqDiff,zOB];have x5:Ext h4 (h4.push (.cells #[.int .i64 (zP3 P[i])] 3)):=(Ext.refl h4).push _;refine zXB (m0:=h1.size) (m:=1) (ys:=[(zP3 P[i]:Int)]) rfl rfl ((OW.ext x24).ext x5) ((x2.trans x24).trans x5).size (eu.block (xs:=[(zP3 P[i]:Int)]) jD) (by omega) fun a' cap' h6 O6 A6=> ?_
  have et:nzF ((P.take i).map zP3)++[(zP3 P[i]:Int)]=nzF ((P.take (i+1)).map zP3):=by
   rw[zQZ P hiP,eF,zW3];rfl
  rw[et]at O6;simp only[he,coreS,aC,af,Nat.reduceAdd,Nat.reduceSub,Nat.reduceMul,Nat.reduceLeDiff,Int.reduceEq,Nat.reduceEqDiff,zOB];refine⟨by rw[zBS];omega,Zr (by kernel_rfl) ⟨A6.ext ((OW.ext x24).ext x5) ((x2.trans x24).trans x5) (bM _),i+1,by omega,rfl,fun u hu=> ?_,a',cap',rfl,O6⟩ meas⟩;rw[zQZ P hiP]at hu;rcases ol.1 hu with hu|hu
  .exact hok u hu
  .rw[fe.1 hu];exact⟨hg,by omega⟩
 obtain rfl:many=i:=by omega
 rw[bD (by omega)]at hok OW;have e1:(numsL (bl s)).length=many:=by unfold numsL;rw[dC,<-hP];omega
 have e2:numsL (bl s)=P.map zP3:=by unfold numsL;rw[hP]
 simp only[he,heW,show¬((many:Int)<(many:Int)) by omega,decide_false,coreS,aC,af,Nat.reduceAdd,Nat.reduceSub,Nat.reduceMul,Nat.reduceLeDiff,Int.reduceEq,Nat.reduceEqDiff,zOB];refine⟨.inl ⟨hnOK.2 ⟨by omega,hok⟩,aW,cW,by rw[e1],by rw[e1,e2];exact OW.mono (Nat.zero_le _)⟩,x1.trans x2⟩
end
end Go.Proofs.YtejmkibjpaoahaaGreatDoor
end
section
namespace Go.Proofs.YtejmkibjpaoahaaGreatDoor
open Go Go.Proofs Go.Eng Go.Run Tab
set_option maxRecDepth 100000
set_option linter.unusedSimpArgs false
set_option linter.unusedVariables false
set_option linter.defProp false
set_option maxHeartbeats 2000000
def zPr (s:ByteArray):List UInt8:=bl (s.extract 0 (s.size-2))
def zRD (s:ByteArray)(many:Nat):Prop:=zPF s=true/\zQf (zPr s) many
end Go.Proofs.YtejmkibjpaoahaaGreatDoor
end
section
namespace Go.Proofs.YtejmkibjpaoahaaGreatDoor
open Go Go.Proofs Go.Eng
set_option maxRecDepth 100000
set_option linter.unusedSimpArgs false
set_option linter.unusedVariables false
set_option linter.defProp false
def zOm (s:ByteArray):List ByteArray:=(FL.prt 10 (bl (s.extract 0 (s.size-1)))).map bs
def zOw (n i:Nat):Nat:=if i=0 then 2 else if i+1=n then 2 else 4
def zOx (w:ByteArray):List Nat:=numsL (zPr w)
def zPu (w:ByteArray):Bool:=decide (w.extract (w.size-1) w.size=zPo (w.extract 0 (w.size-2)))
def zT3 (l:List Nat):En:=⟨(l.getD 0 0:Nat),(l.getD 1 0:Nat),(l.getD 2 0:Nat),(l.getD 3 0:Nat)⟩
def zRg {α:Type}(L:List α):List α:=(L.drop 1).take (L.length-2)
def zPZ (L:List ByteArray):List En:=(zRg L).map fun w=>zT3 (zOx w)
def Uc (L:List ByteArray):Nat:=(zOx (L.getD 0 ⟨#[]⟩)).getD 0 0
def zPx (L:List ByteArray):Nat:=(zOx (L.getD 0 ⟨#[]⟩)).getD 1 0
def zRH (L:List ByteArray):List Nat:=zOx (L.getD (L.length-1) ⟨#[]⟩)
def zQ5 (L:List ByteArray):Prop:=∀i,i<L.length->zRD (L.getD i ⟨#[]⟩) (zOw L.length i)
def zRI (L:List ByteArray):Prop:=(zRH L).getD 0 0=(zPZ L).length/\(((zRH L).getD 1 0:Nat):Int)=zPJ (zPZ L)
noncomputable def ldE (s:ByteArray):Int:=open Classical in
 if 400<s.size then 7
 else if¬(zPP s 10=true/\2<=(zOm s).length)then 8
 else if¬zQ5 (zOm s)then 8
 else if¬(zOm s).all zPu=true then 14
 else if¬zRI (zOm s)then 15
 else chk (Uc (zOm s)) (zPx (zOm s)) (zPZ (zOm s))
def LdP (s:ByteArray)(v:Value)(h':Eng.Heap):Prop:=
 (ldE s=0/\∃a n c,v= .tuple #[.agg #[.int .i64 (Uc (zOm s)),.int .i64 (zPx (zOm s)),.slice a n c],.int .i64 0]/\n=(zPZ (zOm s)).length/\Row h' a (zOS (zPZ (zOm s))))\/
 (ldE s≠0/\v= .tuple #[.agg #[.int .i64 0,.int .i64 0,.slice none 0 0],.int .i64 (ldE s)])
section
variable {s:ByteArray}
theorem zRb (h:400<s.size):ldE s=7:=by unfold ldE;rw[if_pos h]
theorem zRA (h:¬400<s.size)(h1:¬(zPP s 10=true/\2<=(zOm s).length)):ldE s=8:=by unfold ldE;rw[if_neg h,if_pos h1]
theorem zTF (h:¬400<s.size)(h1:zPP s 10=true/\2<=(zOm s).length)(h2:¬zQ5 (zOm s)):ldE s=8:=by unfold ldE;rw[if_neg h,if_neg (fun hh=>hh h1),if_pos h2]
theorem zUC (h:¬400<s.size)(h1:zPP s 10=true/\2<=(zOm s).length)(h2:zQ5 (zOm s))(h3:(zOm s).all zPu=false):ldE s=14:=by
 unfold ldE;rw[if_neg h,if_neg (fun hh=>hh h1),if_neg (fun hh=>hh h2),if_pos (by rw[h3];decide)]
theorem zSW (h:¬400<s.size)(h1:zPP s 10=true/\2<=(zOm s).length)(h2:zQ5 (zOm s))(h3:(zOm s).all zPu=true)(h4:¬zRI (zOm s)):ldE s=15:=by
 unfold ldE;rw[if_neg h,if_neg (fun hh=>hh h1),if_neg (fun hh=>hh h2),if_neg (fun hh=>hh h3),if_pos h4]
theorem zSV (h:¬400<s.size)(h1:zPP s 10=true/\2<=(zOm s).length)(h2:zQ5 (zOm s))(h3:(zOm s).all zPu=true)(h4:zRI (zOm s)):ldE s=chk (Uc (zOm s)) (zPx (zOm s)) (zPZ (zOm s)):=by
 unfold ldE;rw[if_neg h,if_neg (fun hh=>hh h1),if_neg (fun hh=>hh h2),if_neg (fun hh=>hh h3),if_neg (fun hh=>hh h4)]
end
section
variable {many:Nat}{w:ByteArray}{α:Type}
theorem zWv {ws:List ByteArray}{P:List (List UInt8)}(h:ws.map bl=P):P.map bs=ws:=by
 rw[<-h,ql];exact(lC fun w _=>zWm w).trans (EE _)
theorem zQs (h:zRD w many):(zOx w).length=many:=by
 unfold zOx numsL;rw[dC];exact h.2.1
theorem zSX {L:List α}{i:Nat}(d:α)(hi:i<L.length-2):(zRg L).getD i d=L.getD (i+1) d:=by
 unfold zRg;rw[bn,List.getElem?_take,if_pos hi,List.getElem?_drop,bn,OB 1 i]
theorem zRU (L:List α):(zRg L).length=L.length-2:=by
 unfold zRg;rw[eD,mI];omega
theorem zYG (h:zRD w many):∀x∈zOx w,x<1000000:=by
 intro x hx;unfold zOx numsL at hx;obtain⟨u,hu,rfl⟩:=gL.1 hx;obtain⟨h1,h2⟩:=h.2.2 u hu;have hv:=zQh u u.length (bM _) fun j hj=>by
  rw[bn,aY hj];exact h1.2.1 _ (bS _)
 rw[zaz]at hv;exact zZJ h2 hv
theorem zTM (h:zRD w many)(i:Nat):(zOx w).getD i 0<1000000:=by
 rw[bn];by_cases hi:i<(zOx w).length
 .rw[aY hi];exact zYG h _ (bS hi)
 .rw[List.getElem?_eq_none (by omega)];decide
theorem zTw {L:List ByteArray}(h:zQ5 L)(hw:w∈L):∃many,zRD w many:=by
 obtain⟨i,hi,rfl⟩:=SH.1 hw;have:=h i hi;rw[bn,aY hi]at this;exact⟨_,this⟩
theorem zWX {L:List α}{x:α}(h:x∈zRg L):x∈L:=List.mem_of_mem_drop (eB h)
theorem zUZ {L:List ByteArray}(h:zQ5 L):∀e∈zPZ L,0<=e.a/\e.a<=1000000:=by
 intro e he;obtain⟨w,hw,rfl⟩:=gL.1 he;obtain⟨many,hr⟩:=zTw h (zWX hw);have h1:=zTM hr 3;show 0<=(((zOx w).getD 3 0:Nat):Int)/\(((zOx w).getD 3 0:Nat):Int)<=1000000;omega
end
end Go.Proofs.YtejmkibjpaoahaaGreatDoor
end
section
namespace Go.Proofs.YtejmkibjpaoahaaGreatDoor
open Go Go.Proofs Go.Eng Go.Run Tab
section
variable {L:List ByteArray}{b:Option Addr}{h:Eng.Heap}{m0:Nat}
set_option maxRecDepth 100000
set_option linter.unusedSimpArgs false
set_option linter.unusedVariables false
set_option linter.defProp false
set_option maxHeartbeats 4000000
set_option linter.defProp false
def zNw:=(aD (aD (aD (aD (aD @zYQ @zQL) (aD @zRY @zRZ)) (aD (aD @zWz @zYz) (aD @by3 (aD @zQi @by9)))) (aD (aD (aD @zQc @zTr) (aD @zWC (aD @zTs @zTt))) (aD (aD @zTu @zTv) (aD @zWo (aD @zPs @zR8))))) (aD (aD (aD (aD @zR9 @zPK) (aD @zVM @zVZ)) (aD (aD @zWq @zZO) (aD @sz3 (aD @zTg @zTh)))) (aD (aD (aD @zQA @sz9) (aD @zVg (aD @zTi @zPi))) (aD (aD @Tryz.underlying9 @Tryz.underlying29) (aD @Tryz.underlying33 (aD @Tryz.underlying71 @Tryz.underlying139))))))
abbrev HdF:=Option Addr×Nat×Nat
def hdF (t:HdF):Value:= .slice t.1 t.2.1 t.2.2
def zQn (T:List HdF):List Value:=T.map hdF
theorem zQR (T:List HdF):(zQn T).length=T.length:=by simp[zQn]
theorem zQW {T:List HdF}(R:Row h b (zQn T)){j:Nat}(hj:j<T.length):jL h (lg b j)=some (.slice (T.getD j (none,0,0)).1 (T.getD j (none,0,0)).2.1 (T.getD j (none,0,0)).2.2):=by
 have h1:=R.cell (j:=j) (by rw[zQR];exact hj);rw[h1,bn,aY hj];simp[zQn,hdF]
theorem zUj {er:Env}{ty:TypeId}{x y:Operand}{a:Option Addr}{len cap m c:Nat}{T U:List HdF}{K:Value->Eng.Heap->Prop}(hx:ev er x= .slice a len cap)(hy:ev er y= .slice b m c)(O:iV m0 h 29 1 a len cap (zQn T))(h0h:m0<=h.size)(I:Row h b (zQn U))(hm:m=U.length)(hb:len+m<=1000)(H:∀a' cap' h',iV m0 h' 29 1 a' (len+m) cap' (zQn (T++U))->App h h' a a'->K (.slice a' (len+m) cap') h'):aI aF (.call ⟨.builtin .append,#[x,y],#[71,71]⟩) ty er h K:=
 WZ zal zal zWo zZO zVg (by rfl) hx hy O h0h I (by rw[zQR];omega) (fun u hu=>by
  obtain⟨x,_,rfl⟩:=gL.1 hu;rfl) (by omega) (by rw[zYz];omega) fun a' cap' h' O' A'=>H a' cap' h' (by
   have e:zQn T++zQn U=zQn (T++U):=by simp[zQn]
   rw[<-e];exact O') A'
theorem zUX (a:Option Addr)(i j:Nat):lg (lg a i) j=lg a (i+j):=by
 cases a with
 |none=>rfl
 |some p=>
  show some (Cm (Cm p i) j)=some (Cm p (i+j));congr 1;unfold Cm;by_cases h1:i=0<;>by_cases h2:j=0<;>simp[h1,h2,Nat.add_assoc]
theorem zXA {er:Env}{ty:TypeId}{x y:Operand}{a:Option Addr}{len cap m c:Nat}{xs ys:List En}{K:Value->Eng.Heap->Prop}(hx:ev er x= .slice a len cap)(hy:ev er y= .slice b m c)(O:iV m0 h 39 4 a len cap (zOS xs))(h0h:m0<=h.size)(I:Row h b (zOS ys))(hm:ys.length=m)(hb:len+m<=1000)(H:∀a' cap' h',iV m0 h' 39 4 a' (len+m) cap' (zOS (xs++ys))->App h h' a a'->K (.slice a' (len+m) cap') h'):aI aF (.call ⟨.builtin .append,#[x,y],#[33,33]⟩) ty er h K:=
 WZ dM dM zPK zQA zPi (by rfl) hx hy O h0h I (by rw[zOI,hm]) (fun u hu=>by
  simp only[zOS,List.mem_flatMap,enV]at hu;obtain⟨e,_,hu⟩:=hu;simp at hu;rcases hu with rfl|rfl|rfl|rfl<;>rfl) (by omega) (by rw[zQi];omega) (fun a' cap' h' O' A=>H a' cap' h' (by rw[zPk];exact O') A)
theorem zR4 (L:List ByteArray):(zPZ L).length=L.length-2:=by unfold zPZ;rw[dC,zRU]
theorem zU0 {j:Nat}(hj:j<L.length-2):(zPZ L).take (j+1)=(zPZ L).take j++[zT3 (zOx (L.getD (j+1) ⟨#[]⟩))]:=by
 rw[zQZ _ (by rw[zR4];exact hj)];have h1:=zSX (L:=L) ⟨#[]⟩ hj;congr 2;rw[<-h1,bn,aY (by rw[zRU];exact hj)];unfold zPZ;rw[MV];rfl
structure zQ3 (h:Eng.Heap)(T:List HdF)(L:List ByteArray)(i:Nat):Prop where
 len:T.length=i
 row:∀j,j<i->eG 0 h 3 (T.getD j (none,0,0)).1 (T.getD j (none,0,0)).2.1 (T.getD j (none,0,0)).2.2 (nzF (zOx (L.getD j ⟨#[]⟩)))
theorem zQ3.nil (h:Eng.Heap)(L:List ByteArray):zQ3 h [] L 0:=⟨rfl,fun j hj=>by omega⟩
theorem zQ3.ext {h':Eng.Heap}{T:List HdF}{i:Nat}(R:zQ3 h T L i)(x:Ext h h'):zQ3 h' T L i:=⟨R.len,fun j hj=>(R.row j hj).ext x⟩
theorem zQ3.app {h':Eng.Heap}{T:List HdF}{i:Nat}{aN:Option Addr}{n cN:Nat}{aT a':Option Addr}{lT cT:Nat}{vs:List Value}(R:zQ3 h T L i)(I:eG 0 h 3 aN n cN (nzF (zOx (L.getD i ⟨#[]⟩))))(A:App h h' aT a')(O:iV m0 h 29 1 aT lT cT vs):zQ3 h' (T++[(aN,n,cN)]) L (i+1):=by
 refine⟨by rw[cK,zM,R.len],fun j hj=> ?_⟩;by_cases hji:j=i
 .subst hji;have hTl:=R.len;rw[bn,lh (by omega),hTl,Nat.sub_self];exact zRL I A O (by decide)
 .have hTl:=R.len;rw[bn,List.getElem?_append_left (by omega),<-bn];exact zRL (R.row j (by omega)) A O (by decide)
theorem zXq (s:ByteArray)(h:Eng.Heap)(F:Fx h)(hs:s.size<=700):
 ak aF 23 #[.string s] h (fun v h'=>LdP s v h'/\Ext h h'):=by
 (refine Rm Tryz.func23 rfl zY4 ?_;simp only[Tryz.ntmps23,Tryz.results23,coreS,U1,splice,aC,af,Nat.reduceAdd,Nat.reduceSub,Nat.reduceMul,Nat.reduceLeDiff,Int.reduceEq,Nat.reduceEqDiff,zNw])
 obtain⟨h0,hh0⟩:∃h0,h0=h.push (.cells #[.int .i64 0,.int .i64 0,.slice none 0 0] 35):=⟨_,rfl⟩;have x0:Ext h h0:=by rw[hh0];exact(Ext.refl h).push _
 have g0:h0[h.size]? =some (.cells #[.int .i64 0,.int .i64 0,.slice none 0 0] 35):=by rw[hh0];exact jD
 rw[<-hh0];by_cases c1:400<s.size
 .have c1i:(400:Int)<(s.size:Int):=by omega
  simp only[c1i,decide_true,coreS,aC,af,Nat.reduceAdd,Nat.reduceSub,Nat.reduceMul,Nat.reduceLeDiff,Int.reduceEq,Nat.reduceEqDiff,zNw];have e7:=zRb c1;exact⟨.inr ⟨by omega,by rw[e7]⟩,x0⟩
 have c1i:¬(400:Int)<(s.size:Int):=by omega
 simp only[c1i,decide_false,coreS,aC,af,Nat.reduceAdd,Nat.reduceSub,Nat.reduceMul,Nat.reduceLeDiff,Int.reduceEq,Nat.reduceEqDiff,zNw];refine ak.mono (zSo s 10 h0 (by omega)) ?_;rintro v h1 ⟨rfl,rfl⟩;cases hb:zPP s 10 with
 |false=>
  simp only[kC,if_false,coreS,aC,af,Nat.reduceAdd,Nat.reduceSub,Nat.reduceMul,Nat.reduceLeDiff,Int.reduceEq,Nat.reduceEqDiff,zNw];refine ak.mono (zS6 s 10 h1 (by omega)) ?_;rintro v h2 ⟨⟨aS,ws,rfl,RS,hws⟩,x2⟩;have g2:=x2.get g0;simp only[g2,zOb,coreS,aC,af,Nat.reduceAdd,Nat.reduceSub,Nat.reduceMul,Nat.reduceLeDiff,Int.reduceEq,Nat.reduceEqDiff,zNw];have e8:=zRA c1 (fun hh=>by have:=hh.1;rw[hb]at this;cases this);refine Oy g2 (by simp) fun h3 g3 u3=> ?_
  simp only[splice,dL,dG,bK,bL,aZ,bv]at g3;simp only[g3,coreS,aC,af,Nat.reduceAdd,Nat.reduceSub,Nat.reduceMul,Nat.reduceLeDiff,Int.reduceEq,Nat.reduceEqDiff,zNw];exact⟨.inr ⟨by omega,by rw[e8]⟩,u3.ext (x0.trans x2) (bM _)⟩
 |true=>
 have hlt0:0<s.size:=by
  unfold zPP at hb;exact(of_decide_eq_true hb).1
 obtain⟨W,hW⟩:∃W,W=s.extract 0 (s.size-1):=⟨_,rfl⟩;have hWs:W.size=s.size-1:=by rw[hW,zQE _ _ _ (by omega) (by omega)];omega
 simp only[if_true,coreS,aC,af,Nat.reduceAdd,Nat.reduceSub,Nat.reduceMul,Nat.reduceLeDiff,Int.reduceEq,Nat.reduceEqDiff,zNw];rw[<-hW];refine ak.mono (zS6 W 10 h1 (by omega)) ?_;rintro v h2 ⟨⟨aS,L,rfl,RS,hws⟩,x2⟩;have hL:zOm s=L:=by unfold zOm;rw[<-hW];exact zWv hws
 have hLl:L.length=(bl W).count 10+1:=by rw[<-zRX,<-hws,dC]
 have hLc:=AL (a:=(10:UInt8)) (l:=bl W);rw[zOW]at hLc;by_cases c2:L.length<2
 .have c2i:((L.length:Nat):Int)<2:=by omega
  have g2:=x2.get g0;simp only[g2,c2i,zOb,decide_true,bE,coreS,aC,af,Nat.reduceAdd,Nat.reduceSub,Nat.reduceMul,Nat.reduceLeDiff,Int.reduceEq,Nat.reduceEqDiff,zNw];have e8:=zRA c1 (fun hh=>by have:=hh.2;rw[hL]at this;omega);refine Oy g2 (by simp) fun h3 g3 u3=> ?_
  simp only[splice,dL,dG,bK,bL,aZ,bv]at g3;simp only[g3,coreS,aC,af,Nat.reduceAdd,Nat.reduceSub,Nat.reduceMul,Nat.reduceLeDiff,Int.reduceEq,Nat.reduceEqDiff,zNw];exact⟨.inr ⟨by omega,by rw[e8]⟩,u3.ext (x0.trans x2) (bM _)⟩
 have c2i:¬((L.length:Nat):Int)<2:=by omega
 simp only[c2i,zOb,decide_false,bE,coreS,aC,af,Nat.reduceAdd,Nat.reduceSub,Nat.reduceMul,Nat.reduceLeDiff,Int.reduceEq,Nat.reduceEqDiff,zNw];have h1f:zPP s 10=true/\2<=(zOm s).length:=⟨hb,by rw[hL];omega⟩;have g2:=x2.get g0;have F2:=F.ext (x0.trans x2);have form:∀{i:Nat},i<L.length->¬zRD (L.getD i ⟨#[]⟩) (zOw L.length i)->ldE s=8:=fun{i} hi hh=>zTF c1 h1f fun hk=>hh (by rw[hL]at hk;exact hk i hi)
 refine zAi [3,7,8,9,10,11,12,13,14,15,16,43,44,45,46,47,48,49,50,51,52,53,54,55,56,57,58,59,60,61,62,63,64,65,66,67,68,69,70,71,72,73,74,75,76,77,78,79,80,81,82,83,84,85,86,87] (fun e h'=>Ext h2 h'/\∃i:Nat,i<=L.length/\e 43= .int .i64 i/\e 8= .bool (!(L.take i).all zPu)/\(∀j,j<i->zRD (L.getD j ⟨#[]⟩) (zOw L.length j))/\∃aT cT,∃T:List HdF,e 7= .slice aT i cT/\iV h2.size h' 29 1 aT i cT (zQn T)/\zQ3 h' T L i) (fun e _=>match e 43 with| .int _ q=>L.length-q.toNat|_=>0) ⟨Ext.refl _,0,by omega,rfl,rfl,fun j hj=>by omega,none,0,[],rfl,iV.nil _ _ _ _,zQ3.nil _ _⟩ ?_;rintro e h3 ⟨x3,i,hi,he,he8,hok,aT,cT,T,heT,OT,RT⟩;by_cases hin:i<L.length
 .have hlt:(i:Int)<(L.length:Int):=by omega
  have meas:L.length-((i:Int)+1).toNat<L.length-(i:Int).toNat:=by omega
  have ci:=zSD (RS.ext x3) hin;have si:=zSE RS (by omega);obtain⟨w,hw⟩:∃w,w=L[i]:=⟨_,rfl⟩;have hwd:L.getD i ⟨#[]⟩=w:=by rw[hw,bn,aY hin];rfl
  have hbw:=zTk hws hin;rw[<-hw]at ci hbw;have hwl:=zRh 10 (bl W) (bS (l:=FL.prt 10 (bl W)) (n:=i) (by rw[<-hws,dC];exact hin));rw[<-hbw,zOW,zOW]at hwl;have hcase:i=0\/(i≠0/\i+1=L.length)\/(i≠0/\i+1≠L.length):=by omega
  obtain⟨many,hmany⟩:∃many,many=zOw L.length i:=⟨_,rfl⟩;have hmz:many≠1:=by rw[hmany];unfold zOw;split<;>(try split)<;>omega
  rcases hcase with k0|⟨k1,k2⟩|⟨k1,k2⟩
  case' inl=>
   have kd:decide ((i:Int)=0)=true:=decide_eq_true (by omega);have km:many=2:=by rw[hmany,zOw,if_pos k0]
   have kmi:(2:Int)=(many:Int):=by omega
   simp only[he,he8,heT,hlt,ci,kd,zOb,decide_true,bi,coreS,aC,af,Nat.reduceAdd,Nat.reduceSub,Nat.reduceMul,Nat.reduceLeDiff,Int.reduceEq,Nat.reduceEqDiff,zNw];refine⟨by omega,si,?_⟩
  case' inr.inl=>
   have kd:decide ((i:Int)=0)=false:=decide_eq_false (by omega);have kd2:decide ((i:Int)=(L.length:Int)-1)=true:=decide_eq_true (by omega);have km:many=2:=by rw[hmany,zOw,if_neg k1,if_pos k2]
   have kmi:(2:Int)=(many:Int):=by omega
   simp only[he,he8,heT,hlt,ci,kd,kd2,zOb,decide_true,bi,coreS,aC,af,Nat.reduceAdd,Nat.reduceSub,Nat.reduceMul,Nat.reduceLeDiff,Int.reduceEq,Nat.reduceEqDiff,zNw];refine⟨by omega,si,by rw[zBS];omega,?_⟩
  case' inr.inr=>
   have kd:decide ((i:Int)=0)=false:=decide_eq_false (by omega);have kd2:decide ((i:Int)=(L.length:Int)-1)=false:=decide_eq_false (by omega);have km:many=4:=by rw[hmany,zOw,if_neg k1,if_neg k2]
   have kmi:(4:Int)=(many:Int):=by omega
   simp only[he,he8,heT,hlt,ci,kd,kd2,zOb,decide_true,bi,coreS,aC,af,Nat.reduceAdd,Nat.reduceSub,Nat.reduceMul,Nat.reduceLeDiff,Int.reduceEq,Nat.reduceEqDiff,zNw];refine⟨by omega,si,by rw[zBS];omega,?_⟩
  all_goals
   refine ak.mono (zWn w h3 (by omega)) ?_;rintro v h4 ⟨rfl,x4⟩;have y4:=x3.trans x4;cases hk:zPF w with
   |false=>
    simp only[kC,if_false,coreS,aC,af,Nat.reduceAdd,Nat.reduceSub,Nat.reduceMul,Nat.reduceLeDiff,Int.reduceEq,Nat.reduceEqDiff,zNw];have n94:=zRz ⟨#[]⟩ many h4 (F2.ext y4) (Nat.zero_le _) (fun b hb=>by cases hb);rw[<-kmi]at n94;refine ak.mono n94 ?_;rintro v h5 ⟨HN,x5⟩;have y5:=y4.trans x5;rcases HN with⟨hh,-⟩|⟨-,rfl⟩
    .exact absurd hh.1.symm hmz
    have g5:=y5.get g2;simp only[g5,zOb,bP,bE,coreS,aC,af,Nat.reduceAdd,Nat.reduceSub,Nat.reduceMul,Nat.reduceLeDiff,Int.reduceEq,Nat.reduceEqDiff,zNw];have e8:=form hin (by rw[hwd];intro hh;have:=hh.1;rw[hk]at this;cases this);refine Oy g5 (by simp) fun h6 g6 u6=> ?_
    simp only[splice,dL,dG,bK,bL,aZ,bv]at g6;simp only[g6,coreS,aC,af,Nat.reduceAdd,Nat.reduceSub,Nat.reduceMul,Nat.reduceLeDiff,Int.reduceEq,Nat.reduceEqDiff,zNw];exact⟨.inr ⟨by omega,by rw[e8]⟩,u6.ext (x0.trans (x2.trans y5)) (bM _)⟩
   |true=>
    obtain⟨hw3,hwt,-⟩:=(zOo w).1 hk;obtain⟨X,hX⟩:∃X,X=w.extract 0 (w.size-2):=⟨_,rfl⟩;have hXt:zPr w=bl X:=by unfold zPr;rw[hX]
    simp only[if_true,coreS,aC,af,Nat.reduceAdd,Nat.reduceSub,Nat.reduceMul,Nat.reduceLeDiff,Int.reduceEq,Nat.reduceEqDiff,zNw];rw[<-hX]at hwt ⊢;have hX12:=zRF hwt;have n94:=zRz X many h4 (F2.ext y4) (by omega) (fun b hb=>by
     obtain⟨j,hj,rfl⟩:=SH.1 hb;have h9:=((zQB X).1 hwt).2 j (by rw[zOW]at hj;exact hj);rw[zOv,bn,aY hj]at h9;exact h9)
    rw[<-kmi]at n94;refine ak.mono n94 ?_;rintro v h5 ⟨HN,x5⟩;have y5:=y4.trans x5;rcases HN with⟨hn,aN,cN,rfl,IN⟩|⟨hn,rfl⟩
    case inr=>
     have g5:=y5.get g2;simp only[g5,zOb,bP,bE,coreS,aC,af,Nat.reduceAdd,Nat.reduceSub,Nat.reduceMul,Nat.reduceLeDiff,Int.reduceEq,Nat.reduceEqDiff,zNw];have e8:=form hin (by rw[hwd,<-hmany];intro hh;have:=hh.2;rw[hXt]at this;exact hn this);refine Oy g5 (by simp) fun h6 g6 u6=> ?_
     simp only[splice,dL,dG,bK,bL,aZ,bv]at g6;simp only[g6,coreS,aC,af,Nat.reduceAdd,Nat.reduceSub,Nat.reduceMul,Nat.reduceLeDiff,Int.reduceEq,Nat.reduceEqDiff,zNw];exact⟨.inr ⟨by omega,by rw[e8]⟩,u6.ext (x0.trans (x2.trans y5)) (bM _)⟩
    have hrd:zRD w many:=⟨hk,by rw[hXt];exact hn⟩;have hrow:zOx w=numsL (bl X):=by unfold zOx;rw[hXt]
    rw[<-hrow]at IN ⊢;have hall:(L.take (i+1)).all zPu=((L.take i).all zPu&&zPu w):=by
     rw[zQZ L hin,<-hw,List.all_append];simp
    have hok1:∀j,j<i+1->zRD (L.getD j ⟨#[]⟩) (zOw L.length j):=fun j hj=>by
     by_cases hji:j=i
     .rw[hji,hwd,<-hmany];exact hrd
     .exact hok j (by omega)
    cases hwr:(L.take i).all zPu with
    |false=>
     rw[hwr,Bool.false_and]at hall;simp only[he,he8,heT,hwr,zOb,bP,bE,coreS,aC,af,Nat.reduceAdd,Nat.reduceSub,Nat.reduceMul,Nat.reduceLeDiff,Int.reduceEq,Nat.reduceEqDiff,zNw];have x6:Ext h5 (h5.push (.cells #[.slice aN (zOx w).length cN] 29)):=(Ext.refl h5).push _;have OT6:=(OT.ext (x4.trans x5)).ext x6;have RT6:=(RT.ext (x4.trans x5)).ext x6;refine zUj (m0:=h2.size) (m:=1) (U:=[(aN,(zOx w).length,cN)]) rfl rfl OT6 (y5.trans x6).size (Row.block (c:=zQn [(aN,(zOx w).length,cN)]) jD) rfl (by omega) fun a' cap' h7 O7 A7=> ?_
     simp only[he,coreS,aC,af,Nat.reduceAdd,Nat.reduceSub,Nat.reduceMul,Nat.reduceLeDiff,Int.reduceEq,Nat.reduceEqDiff,zNw];exact⟨by rw[zBS];omega,Zr (by kernel_rfl) ⟨A7.extV OT6 (y5.trans x6) (bM _),i+1,by omega,rfl,by rw[hall];rfl,hok1,a',cap',_,rfl,O7,RT6.app (by rw[hwd];exact IN.ext x6) A7 OT6⟩ meas⟩
    |true=>
     rw[hwr,XF]at hall;simp only[he,he8,heT,hwr,zOb,bP,bE,coreS,aC,af,Nat.reduceAdd,Nat.reduceSub,Nat.reduceMul,Nat.reduceLeDiff,Int.reduceEq,Nat.reduceEqDiff,zNw];refine ak.mono (zS5 X h5 hwt) ?_;rintro v h6 ⟨rfl,x6'⟩;have hrg:decide (w.extract (w.size-1) w.size=zPo X)=zPu w:=by unfold zPu;rw[hX]
     simp only[he,heT,hrg,zOb,coreS,aC,af,Nat.reduceAdd,Nat.reduceSub,Nat.reduceMul,Nat.reduceLeDiff,Int.reduceEq,Nat.reduceEqDiff,zNw];have x6:Ext h6 (h6.push (.cells #[.slice aN (zOx w).length cN] 29)):=(Ext.refl h6).push _;have OT6:=(OT.ext ((x4.trans x5).trans x6')).ext x6;have RT6:=(RT.ext ((x4.trans x5).trans x6')).ext x6;refine zUj (m0:=h2.size) (m:=1) (U:=[(aN,(zOx w).length,cN)]) rfl rfl OT6 ((y5.trans x6').trans x6).size (Row.block (c:=zQn [(aN,(zOx w).length,cN)]) jD) rfl (by omega) fun a' cap' h7 O7 A7=> ?_
     simp only[he,coreS,aC,af,Nat.reduceAdd,Nat.reduceSub,Nat.reduceMul,Nat.reduceLeDiff,Int.reduceEq,Nat.reduceEqDiff,zNw];exact⟨by rw[zBS];omega,Zr (by kernel_rfl) ⟨A7.extV OT6 ((y5.trans x6').trans x6) (bM _),i+1,by omega,rfl,by rw[hall];rfl,hok1,a',cap',_,rfl,O7,RT6.app (by rw[hwd];exact(IN.ext x6').ext x6) A7 OT6⟩ meas⟩
 obtain rfl:i=L.length:=by omega
 rw[bD (bM _)]at he8;have hfrm:zQ5 (zOm s):=by rw[hL];exact hok
 have he7:=heT;have lenz:=RT.len;have b0:=zQW OT.row (j:=0) (by omega);have bz:=zQW OT.row (j:=L.length-1) (by omega);obtain⟨t0,ht0⟩:∃t0,t0=T.getD 0 (none,0,0):=⟨_,rfl⟩;have I0:=(RT.row 0 (by omega)).ints;have l0:=zQs (hok 0 (by omega));rw[<-ht0]at b0 I0;have l0m:zOw L.length 0=2:=by unfold zOw;rw[if_pos rfl]
 rw[l0m]at l0;have c00:=I0.cell (j:=0) (by rw[zOf];omega);have c01:=I0.cell (j:=1) (by rw[zOf];omega);have s0:=I0.isSome (by rw[zOf];omega);have n0:=I0.len;rw[zOf,l0]at n0;rw[zQq]at c00 c01;have sT:aT.isSome=true:=OT.row.isSome (by rw[zQR];omega);simp only[he,heT,show¬((L.length:Int)<(L.length:Int)) by omega,decide_false,coreS,aC,af,Nat.reduceAdd,Nat.reduceSub,Nat.reduceMul,Nat.reduceLeDiff,Int.reduceEq,Nat.reduceEqDiff,zNw];refine zB7 (by kernel_rfl) zBc (.quiet 0 (.quiet 1 (.quiet 2 (.quiet 3 (.quiet 4 (.quiet 5 (.quiet 6 (.quiet 7 (.quiet 8 (.quiet 9 (.quiet 10 (.keep 11 (.one 12 (.fin)))))))))))))) (by kernel_rfl) rfl (by kernel_rfl) ?_;simp only[heT,b0,c00,c01,coreS,aC,af,Nat.reduceAdd,Nat.reduceSub,Nat.reduceMul,Nat.reduceLeDiff,Int.reduceEq,Nat.reduceEqDiff,drawS,treeS,zNw];refine⟨⟨by omega,by omega⟩,sT,⟨by omega,by omega⟩,s0,⟨by omega,by omega⟩,sT,⟨by omega,by omega⟩,s0,?_⟩;have ka:Uc (zOm s)=(zOx (L.getD 0 ⟨#[]⟩)).getD 0 0:=by unfold Uc;rw[hL]
 have kz:zPx (zOm s)=(zOx (L.getD 0 ⟨#[]⟩)).getD 1 0:=by unfold zPx;rw[hL]
 rw[<-ka,<-kz];obtain⟨k,hk⟩:∃k,k=Uc (zOm s):=⟨_,rfl⟩;obtain⟨z,hz⟩:∃z,z=zPx (zOm s):=⟨_,rfl⟩;rw[<-hk,<-hz];simp only[splice,dL,dG,bK,cz,bL,aZ,bv,OD,Nat.reduceAdd,Nat.reduceLeDiff,if_true,coreS,aC,af,Nat.reduceAdd,Nat.reduceSub,Nat.reduceMul,Nat.reduceLeDiff,Int.reduceEq,Nat.reduceEqDiff,drawS,treeS,zNw];refine YD fun h4 x4=> ?_
 simp only[coreS,aC,af,Nat.reduceAdd,Nat.reduceSub,Nat.reduceMul,Nat.reduceLeDiff,Int.reduceEq,Nat.reduceEqDiff,drawS,treeS,zNw];refine⟨(Ext.refl h4).push _,?_⟩;refine Zk fun h5 x5=> ?_
 have q5:=x5.get (jD (h:=h4));simp only[q5,coreS,aC,af,Nat.reduceAdd,Nat.reduceSub,Nat.reduceMul,Nat.reduceLeDiff,Int.reduceEq,Nat.reduceEqDiff,drawS,treeS,zNw];refine Oy q5 (by simp) fun h6 g6 u6=> ?_
 simp only[splice,dL,dG,bK,cz,bL,aZ,bv,OD,Nat.reduceAdd]at g6;refine zAN fun h7 x7=> ?_
 have g7:=x7.get g6;have x37:Ext h3 h7:=(u6.ext (x4.trans x5.zBe) (x4.size)).trans x7;obtain⟨B,hB⟩:∃B,B=h4.size:=⟨_,rfl⟩;have hB3:h3.size<=B:=by rw[hB];exact x4.size
 rw[<-hB]at g7 ⊢;have OT7:=OT.ext x37;have RT7:=RT.ext x37;have hB7:=bA g7;simp only[heT,coreS,aC,af,Nat.reduceAdd,Nat.reduceSub,Nat.reduceMul,Nat.reduceLeDiff,Int.reduceEq,Nat.reduceEqDiff,zNw];have hcT:=OT.cap;have ic:¬(cT:Int)=1:=by omega
 have e2:((L.length:Int)-1-1).toNat=L.length-2:=by omega
 simp only[ic,if_false,e2];refine⟨by rw[zBS];omega,by omega,by omega,by omega,by omega,?_⟩;have E7:iV (B+1) h7 39 4 none 0 0 (zOS ((zPZ L).take 0)):=iV.nil _ _ _ _;refine zAi [19,105,106,107,108,109,110,111,112,113,114,115,116,117,118,119,120,121,122,123,124,125,126,127] (fun e h'=>Ext h3 h'/\∃j:Nat,j<=L.length-2/\e 105= .int .i64 j/\∃aE cE,h'[B]? =some (.cells #[.int .i64 k,.int .i64 z,.slice aE j cE] 35)/\iV (B+1) h' 39 4 aE j cE (zOS ((zPZ L).take j))) (fun e _=>match e 105 with| .int _ q=>L.length-2-q.toNat|_=>0) ⟨x37,0,by omega,rfl,none,0,g7,E7⟩ ?_;rintro e2 h8 ⟨x8,j,hj,he2,aE,cE,g8,OE⟩;have OT8:=OT.ext x8;have RT8:=RT.ext x8;by_cases hjn:j<L.length-2
 .have hlt:(j:Int)<((L.length-2:Nat):Int):=by omega
  have meas:L.length-2-((j:Int)+1).toNat<L.length-2-(j:Int).toNat:=by omega
  have bt:=zQW OT8.row (j:=1+j) (by rw[lenz];omega);obtain⟨t,ht⟩:∃t,t=T.getD (1+j) (none,0,0):=⟨_,rfl⟩;have It:=(RT8.row (1+j) (by omega)).ints;have lt:=zQs (hok (1+j) (by omega));have ltm:zOw L.length (1+j)=4:=by unfold zOw;rw[if_neg (by omega),if_neg (by omega)]
  rw[<-ht]at bt It;rw[ltm]at lt;obtain⟨r,hr⟩:∃r,r=zOx (L.getD (1+j) ⟨#[]⟩):=⟨_,rfl⟩;rw[<-hr]at It lt;have n0:=It.len;rw[zOf,lt]at n0;have r0:=It.cell (j:=0) (by rw[zOf];omega);have r1:=It.cell (j:=1) (by rw[zOf];omega);have r2:=It.cell (j:=2) (by rw[zOf];omega);have r3:=It.cell (j:=3) (by rw[zOf];omega);have sr:=It.isSome (by rw[zOf];omega);rw[zQq]at r0 r1 r2 r3;have sT1:(lg aT 1).isSome=true:=by
   cases aT with
   |none=>cases sT
   |some p=>rfl
  simp only[he2,hlt,zUX,bt,decide_true,bi,coreS,aC,af,Nat.reduceAdd,Nat.reduceSub,Nat.reduceMul,Nat.reduceLeDiff,Int.reduceEq,Nat.reduceEqDiff,zNw];refine⟨by omega,sT1,?_⟩;have z2:((2:Int)).toNat=2:=rfl;have z3:((3:Int)).toNat=3:=rfl;refine zB7 (by kernel_rfl) zBc (.quiet 0 (.quiet 1 (.quiet 2 (.quiet 3 (.quiet 4 (.quiet 5 (.quiet 6 (.quiet 7 (.quiet 8 (.quiet 9 (.quiet 10 (.quiet 11 (.quiet 12 (.quiet 13 (.quiet 14 (.keep 15 (.one 16 (.quiet 17 (.one 18 (.fin)))))))))))))))))))) (by kernel_rfl) rfl (by kernel_rfl) ?_;simp only[g8,r0,r1,r2,r3,z2,z3,coreS,aC,af,Nat.reduceAdd,Nat.reduceSub,Nat.reduceMul,Nat.reduceLeDiff,Int.reduceEq,Nat.reduceEqDiff,drawS,treeS,zNw];refine⟨⟨by omega,by omega⟩,sr,⟨by omega,by omega⟩,sr,⟨by omega,by omega⟩,sr,⟨by omega,by omega⟩,sr,?_⟩;simp only[splice,dL,dG,bK,cz,bL,aZ,bv,OD,Nat.reduceAdd,Nat.reduceLeDiff,if_true,coreS,aC,af,Nat.reduceAdd,Nat.reduceSub,Nat.reduceMul,Nat.reduceLeDiff,Int.reduceEq,Nat.reduceEqDiff,drawS,treeS,zNw];refine YD fun h9 x9=> ?_
  simp only[splice,dL,dG,bK,bL,aZ,bv,coreS,aC,af,Nat.reduceAdd,Nat.reduceSub,Nat.reduceMul,Nat.reduceLeDiff,Int.reduceEq,Nat.reduceEqDiff,drawS,treeS,zNw];refine⟨by decide,(Ext.refl h9).push _,?_⟩;refine Zk fun h10 x10=> ?_
  have x810:Ext h8 h10:=x9.trans x10.zBe;have OE10:=OE.ext x810;have g10:=x810.get g8;have q10:=x10.get jD;simp only[coreS,aC,af,Nat.reduceAdd,Nat.reduceSub,Nat.reduceMul,Nat.reduceLeDiff,Int.reduceEq,Nat.reduceEqDiff,drawS,treeS,zNw];refine zXA (m0:=B+1) (len:=j) (m:=1) (xs:=(zPZ L).take j) (ys:=[zT3 r]) rfl rfl OE10 (by have:=bA g10;omega) (Row.block (c:=zOS [zT3 r]) q10) rfl (by omega) fun a' cap' h11 O11 A11=> ?_
  try simp only[coreS,aC,af,Nat.reduceAdd,Nat.reduceSub,Nat.reduceMul,Nat.reduceLeDiff,Int.reduceEq,Nat.reduceEqDiff,drawS,treeS,zNw]
  refine Zk fun h12 x12=> ?_
  have g12:=x12.get (A11.updV OE10 g10 (by omega));simp only[g12,coreS,aC,af,Nat.reduceAdd,Nat.reduceSub,Nat.reduceMul,Nat.reduceLeDiff,Int.reduceEq,Nat.reduceEqDiff,drawS,treeS,zNw];refine Oy g12 (by simp) fun h13 g13 u13=> ?_
  simp only[splice,dL,dG,bK,cz,bL,aZ,bv]at g13;refine zAN fun h14 x14=> ?_
  simp only[he2,coreS,aC,af,Nat.reduceAdd,Nat.reduceSub,Nat.reduceMul,Nat.reduceLeDiff,Int.reduceEq,Nat.reduceEqDiff,zNw];have O14:=((O11.ext x12).upd u13 (by omega)).ext x14;have et:=zU0 (L:=L) hjn;rw[OB j 1,<-hr,OB 1 j]at et;have xF:Ext h3 h14:=(u13.ext ((A11.extV OE10 (x8.trans x810) (by omega)).trans x12) hB3).trans x14;exact⟨by rw[zBS];omega,Zr (by kernel_rfl) ⟨xF,j+1,by omega,rfl,a',cap',x14.get g13,by rw[et];exact O14⟩ meas⟩
 obtain rfl:j=L.length-2:=by omega
 rw[bD (by rw[zR4];exact bM _)]at OE;have bz:=zQW OT8.row (j:=L.length-1) (by omega);have ez:((L.length:Int)-1).toNat=L.length-1:=by omega
 obtain⟨t,ht⟩:∃t,t=T.getD (L.length-1) (none,0,0):=⟨_,rfl⟩;have Oz:=RT8.row (L.length-1) (by omega);have lz:=zQs (hok (L.length-1) (by omega));have lzm:zOw L.length (L.length-1)=2:=by unfold zOw;rw[if_neg (by omega),if_pos (by omega)]
 rw[<-ht]at bz Oz;rw[lzm]at lz;obtain⟨r,hr⟩:∃r,r=zOx (L.getD (L.length-1) ⟨#[]⟩):=⟨_,rfl⟩;rw[<-hr]at Oz lz;have n0:=Oz.ints.len;rw[zOf,lz]at n0;obtain⟨es,hes⟩:∃es,es=zPZ L:=⟨_,rfl⟩;have esl:L.length-2=es.length:=by rw[hes,zR4]
 rw[<-hes]at OE;have hEs:zPZ (zOm s)=es:=by rw[hL,hes]
 have hEq:zRI (zOm s)<->r.getD 0 0=es.length/\((r.getD 1 0:Nat):Int)=zPJ es:=by
  unfold zRI zRH;rw[hEs,hL,<-hr]
 rw[<-hL]at he8;simp only[he2,g8,bz,ez,show¬((L.length-2:Nat):Int)<((L.length-2:Nat):Int) by omega,decide_false,coreS,aC,af,Nat.reduceAdd,Nat.reduceSub,Nat.reduceMul,Nat.reduceLeDiff,Int.reduceEq,Nat.reduceEqDiff,zNw];refine⟨by rw[zBS];omega,⟨by omega,by omega⟩,sT,?_⟩;refine ak.mono (zRQ k z aE (L.length-2) cE es h8 OE.row esl (by omega)) ?_;rintro v h9 ⟨rfl,x9⟩;have y9:=(x3.trans x8).trans x9;have g9:=y9.get g2;have gB9:=x9.get g8;cases hwr:(zOm s).all zPu with
 |false=>
  have e14:=zUC c1 h1f hfrm hwr;simp only[he8,hwr,g9,bP,coreS,aC,af,Nat.reduceAdd,Nat.reduceSub,Nat.reduceMul,Nat.reduceLeDiff,Int.reduceEq,Nat.reduceEqDiff,zNw];refine Oy g9 (by simp) fun h10 g10 u10=> ?_
  simp only[splice,dL,dG,bK,bL,aZ,bv]at g10;simp only[g10,coreS,aC,af,Nat.reduceAdd,Nat.reduceSub,Nat.reduceMul,Nat.reduceLeDiff,Int.reduceEq,Nat.reduceEqDiff,zNw];exact⟨.inr ⟨by omega,by rw[e14]⟩,u10.ext (x0.trans (x2.trans y9)) (bM _)⟩
 |true=>
 have Iz:=(Oz.ext x9).ints;have r0:=Iz.cell (j:=0) (by rw[zOf];omega);have r1:=Iz.cell (j:=1) (by rw[zOf];omega);have sr:=Iz.isSome (by rw[zOf];omega);rw[zQq]at r0 r1;simp only[he8,hwr,bE,coreS,aC,af,Nat.reduceAdd,Nat.reduceSub,Nat.reduceMul,Nat.reduceLeDiff,Int.reduceEq,Nat.reduceEqDiff,zNw];refine zB9 (by kernel_rfl) zBc [(0,0),(1,0),(2,0),(3,0),(4,0),(5,0),(6,0),(7,0),(8,0),(9,0),(10,0),(11,0),(12,0),(13,0),(14,0),(15,0),(16,0)] (by kernel_rfl) rfl (by kernel_rfl) ?_;by_cases q1:r.getD 0 0=es.length
 case neg=>
  have q1d:decide (((r.getD 0 0:Nat):Int)=((L.length-2:Nat):Int))=false:=decide_eq_false (by omega);have e15:=zSW c1 h1f hfrm hwr (fun hh=>q1 (hEq.1 hh).1);simp only[r0,gB9,q1d,zOb,zPl,bP,coreS,aC,af,Nat.reduceAdd,Nat.reduceSub,Nat.reduceMul,Nat.reduceLeDiff,Int.reduceEq,Nat.reduceEqDiff,drawS,zNw];refine⟨⟨by omega,by omega⟩,sr,?_⟩;refine zBw fun h10 x10=> ?_
  have g10:=x10.get g9;simp only[g10,coreS,aC,af,Nat.reduceAdd,Nat.reduceSub,Nat.reduceMul,Nat.reduceLeDiff,Int.reduceEq,Nat.reduceEqDiff,zNw];refine Oy g10 (by simp) fun h11 g11 u11=> ?_
  simp only[splice,dL,dG,bK,bL,aZ,bv]at g11;simp only[g11,coreS,aC,af,Nat.reduceAdd,Nat.reduceSub,Nat.reduceMul,Nat.reduceLeDiff,Int.reduceEq,Nat.reduceEqDiff,zNw];exact⟨.inr ⟨by omega,by rw[e15]⟩,u11.ext (x0.trans (x2.trans (y9.trans x10))) (bM _)⟩
 have q1d:decide (((r.getD 0 0:Nat):Int)=((L.length-2:Nat):Int))=true:=decide_eq_true (by omega);simp only[r0,r1,gB9,q1d,zOb,zPl,bE,coreS,aC,af,Nat.reduceAdd,Nat.reduceSub,Nat.reduceMul,Nat.reduceLeDiff,Int.reduceEq,Nat.reduceEqDiff,drawS,zNw];refine⟨⟨by omega,by omega⟩,sr,⟨by omega,by omega⟩,sr,?_⟩;have hab:∀e∈es,0<=e.a/\e.a<=1000000:=by
  rw[<-hEs];exact zUZ hfrm
 refine zCC _ (fun h' x'=>ak.mono (zUN aE (L.length-2) cE es h' ((OE.row.ext x9).ext x') esl (by omega) hab) fun v h'' q=>⟨q.1,q.2⟩) ?_;by_cases q2:((r.getD 1 0:Nat):Int)=zPJ es
 case neg=>
  have q2d:decide (((r.getD 1 0:Nat):Int)=zPJ es)=false:=decide_eq_false q2;have e15:=zSW c1 h1f hfrm hwr (fun hh=>q2 (hEq.1 hh).2);simp only[q2d,zOb,zPl,bP,coreS,aC,af,Nat.reduceAdd,Nat.reduceSub,Nat.reduceMul,Nat.reduceLeDiff,Int.reduceEq,Nat.reduceEqDiff,drawS,zNw];refine zBw fun h10 x10=> ?_
  have g10:=x10.get g9;simp only[g10,coreS,aC,af,Nat.reduceAdd,Nat.reduceSub,Nat.reduceMul,Nat.reduceLeDiff,Int.reduceEq,Nat.reduceEqDiff,zNw];refine Oy g10 (by simp) fun h11 g11 u11=> ?_
  simp only[splice,dL,dG,bK,bL,aZ,bv]at g11;simp only[g11,coreS,aC,af,Nat.reduceAdd,Nat.reduceSub,Nat.reduceMul,Nat.reduceLeDiff,Int.reduceEq,Nat.reduceEqDiff,zNw];exact⟨.inr ⟨by omega,by rw[e15]⟩,u11.ext (x0.trans (x2.trans (y9.trans x10))) (bM _)⟩
 have q2d:decide (((r.getD 1 0:Nat):Int)=zPJ es)=true:=decide_eq_true q2;have ec:=zSV c1 h1f hfrm hwr (hEq.2 ⟨q1,q2⟩);rw[hEs,<-hk,<-hz]at ec;simp only[q2d,zOb,zPl,bE,coreS,aC,af,Nat.reduceAdd,Nat.reduceSub,Nat.reduceMul,Nat.reduceLeDiff,Int.reduceEq,Nat.reduceEqDiff,drawS,zNw];refine zBw fun h10 x10=> ?_
 have g10:=x10.get g9;have gB10:=x10.get gB9;by_cases hc:chk k z es=0
 case neg=>
  have hcd:decide (chk k z es=0)=false:=decide_eq_false hc;simp only[hcd,g10,bP,coreS,aC,af,Nat.reduceAdd,Nat.reduceSub,Nat.reduceMul,Nat.reduceLeDiff,Int.reduceEq,Nat.reduceEqDiff,zNw];refine Oy g10 (by simp) fun h11 g11 u11=> ?_
  simp only[splice,dL,dG,bK,bL,aZ,bv]at g11;simp only[g11,coreS,aC,af,Nat.reduceAdd,Nat.reduceSub,Nat.reduceMul,Nat.reduceLeDiff,Int.reduceEq,Nat.reduceEqDiff,zNw];exact⟨.inr ⟨by omega,by rw[ec]⟩,u11.ext (x0.trans (x2.trans (y9.trans x10))) (bM _)⟩
 have hcd:decide (chk k z es=0)=true:=decide_eq_true hc;simp only[hcd,g10,gB10,bE,coreS,aC,af,Nat.reduceAdd,Nat.reduceSub,Nat.reduceMul,Nat.reduceLeDiff,Int.reduceEq,Nat.reduceEqDiff,zNw];refine Oy g10 (by simp) fun h11 g11 u11=> ?_
 simp only[splice,dL,dG,bK,bL,aZ,bv]at g11;simp only[g11,coreS,aC,af,Nat.reduceAdd,Nat.reduceSub,Nat.reduceMul,Nat.reduceLeDiff,Int.reduceEq,Nat.reduceEqDiff,zNw];have xU:Ext h h11:=u11.ext (x0.trans (x2.trans (y9.trans x10))) (bM _);refine⟨.inl ⟨by omega,aE,L.length-2,cE,by rw[<-hk,<-hz],by rw[hEs];exact esl,?_⟩,xU⟩;rw[hEs];exact(((OE.ext x9).ext x10).upd u11 (by have:=x0.size;have:=x2.size;have:=x3.size;omega)).row
end
end Go.Proofs.YtejmkibjpaoahaaGreatDoor
end
section
namespace Go.Proofs.YtejmkibjpaoahaaGreatDoor
open Go Go.Proofs Go.Eng Go.Run Tab
section
variable {s:ByteArray}
set_option maxRecDepth 100000
set_option linter.unusedSimpArgs false
set_option linter.unusedVariables false
set_option linter.defProp false
set_option maxHeartbeats 4000000
theorem zSw {c:UInt8}(h:(bl s).getLast? =some c):zPP s c=true:=by
 have hne:bl s≠[]:=fun e=>by rw[e]at h;cases h
 have hl:=xK.2 hne;rw[zOW]at hl;unfold zPP;refine decide_eq_true ⟨hl,?_⟩;unfold at_;rw[zOv,<-zOW,bn,<-List.getLast?_eq_getElem?,h];rfl
theorem zRc {c:UInt8}(h:zPP s c=true):bl s=bl (s.extract 0 (s.size-1))++[c]:=by
 have h0:0<s.size:=by
  unfold zPP at h;exact(of_decide_eq_true h).1
 have h1:=congrArg bl ((zUE s c).1 h);rw[zQC]at h1;have h2:(bl s).drop (s.size-1)=[c]:=h1;rw[zRP,<-h2,List.take_append_drop]
end
end Go.Proofs.YtejmkibjpaoahaaGreatDoor
end
section
namespace Go.Proofs.YtejmkibjpaoahaaGreatDoor
open Go Go.Proofs Go.Eng
section
variable {ns:List Nat}
set_option maxRecDepth 100000
set_option linter.unusedSimpArgs false
set_option linter.unusedVariables false
set_option linter.defProp false
theorem zV7 (l:List UInt8):(sgL l).toNat=97+zPg l l.length % 13:=by
 unfold sgL;rw[zPn (by omega)]
theorem zXc {n:Nat}{c:UInt8}(h:isD c=false):c∉dgb n:=fun hm=>by
 rw[zQa n c hm]at h;cases h
theorem zUK (h0:ns≠[]):FL.prt 32 (zOz ns)=ns.map dgb:=by
 unfold zOz;refine FL.zTd 32 _ (by simpa using h0) fun w hw=> ?_
 obtain⟨n,-,rfl⟩:=gL.1 hw;exact zXc rfl
theorem zVY (h0:ns≠[]):numsL (zOz ns)=ns:=by
 unfold numsL;rw[zUK h0,ql];exact(lC fun n _=>zVe n).trans (EE _)
theorem zTc (h0:ns≠[])(hb:∀n∈ns,n<1000000):zQf (zOz ns) ns.length:=by
 unfold zQf;rw[zUK h0,dC];refine⟨rfl,fun w hw=> ?_⟩;obtain⟨n,hn,rfl⟩:=gL.1 hw;exact⟨zR1 n,zPj (k:=5) (hb n hn)⟩
theorem zUD (h0:ns≠[])(h12:(zOz ns).length<=12)(hb:∀n∈ns,n<1000000):zRD (bs (zPA ns)) ns.length/\zOx (bs (zPA ns))=ns/\zPu (bs (zPA ns))=true:=by
 have hp:=zTQ h0;have hl:(zPA ns).length=(zOz ns).length+2:=by unfold zPA;rw[cK];rfl
 have hs:(bs (zPA ns)).size=(zOz ns).length+2:=by rw[zP4,hl]
 have hx:(bs (zPA ns)).extract 0 ((bs (zPA ns)).size-2)=bs (zOz ns):=by
  apply zQD;rw[zRP,zPG,zPG,hs,HY];unfold zPA;exact FN rfl
 have ht:zPr (bs (zPA ns))=zOz ns:=by unfold zPr;rw[hx,zPG]
 have a2:at_ (bs (zPA ns)) ((bs (zPA ns)).size-2)=32:=by
  unfold at_;rw[zOv,zPG,hs,HY];unfold zPA;rw[bn,lh (bM _),Nat.sub_self];rfl
 have a1:at_ (bs (zPA ns)) ((bs (zPA ns)).size-1)=(sgL (zOz ns)).toNat:=by
  unfold at_;rw[zOv,zPG,hs];unfold zPA;rw[bn,lh (by omega),show(zOz ns).length+2-1-(zOz ns).length=1 by omega];rfl
 have hg:=zV7 (zOz ns);refine⟨⟨(zOo _).2 ⟨by omega,by rw[hx];exact zTS h0 h12,a2,by omega,by omega⟩,by rw[ht];exact zTc h0 hb⟩,by unfold zOx;rw[ht,zVY h0],?_⟩;unfold zPu;rw[hx,zRk];refine decide_eq_true ?_;apply zQD;rw[zQC,zPG,zPG,hs];unfold zPA;rw[List.drop_append,List.drop_of_length_le (by omega),show(zOz ns).length+2-1-(zOz ns).length=1 by omega];rfl
theorem zRa:∀LL:List (List UInt8),LL≠[]->FL.jn 10 LL++[10]=LL.flatMap fun l=>l++[10]
 |[],h=>absurd rfl h
 |[l],_=>by simp[FL.jn]
 |l::m::LL,_=>by
  have ih:=zRa (m::LL) (by simp);rw[uA,<-ih];show(l++10::FL.jn 10 (m::LL))++[10]=_;simp
theorem zXo (ns:List Nat):(10:UInt8)∉zPA ns:=by
 unfold zPA;intro h;rcases ol.1 h with h|h
 .have:=zTR ns 10 h;exact absurd this (by decide)
 .simp only[ek,kY,or_false]at h;rcases h with h|h
  .exact absurd h (by decide)
  .have h1:=zV7 (zOz ns);rw[<-h]at h1;have h2:(10:UInt8).toNat=10:=rfl;omega
def zOk (k z:Nat)(es:List En):List (List Nat):=[k,z]::(es.map eN++[[es.length,(zPJ es).toNat]])
theorem zRt (k z:Nat)(es:List En):zP7 k z es=(zOk k z es).flatMap fun ns=>zPA ns++[10]:=by
 unfold zP7 zOk;rw[uA,List.flatMap_append,List.flatMap_map];simp[zPt]
end
end Go.Proofs.YtejmkibjpaoahaaGreatDoor
end
