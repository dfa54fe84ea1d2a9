/- Lemmas. No condition. -/
import Derived.Test.YtejmkibjpaoahaaGreatDoorOk
import Derived.Test.YtejmkibjpaoahaaGreatDoorV2
import Derived.Shelf.Sort.Plain
import Derived.Shelf.Slices.CompactI
import Derived.Shelf.Slices.In.SortNone
import Derived.Ground.NamesProg
import Derived.Ground.Names2Prog
import Derived.Test.YtejmkibjpaoahaaGreatDoorProg
import Derived.Lib.SlicesCompact
open Go.Value renaming oneCell'→af,cells→aC,int→tq
open And renaming intro→aD
open List renaming getElem?_eq_getElem→aF,getD_eq_getElem?_getD→aN,mem_range→aX,length_cons→aZ,range→bn,mem_singleton→bv,mem_map→bz,mem_cons_of_mem→bD,mem_cons_self→bE,take_of_length_le→bI,append_nil→bK,length_nil→bL,length_append→bQ,mem_filter→bR,nil_append→bS,mem_append→cz,mem_cons→cK,getElem_mem→cZ,toList_toArray→dn,cons_append→dC,findIdx?_eq_some_iff_getElem→dL,length_map→ek,all_eq_true→eB,take→eD,getElem?_append_left→eP,contains_eq_mem→fe,mem_append_left→fo,drop→gL,take_add_one→gY,getElem?_eq_none→ic,map_cons→iq,not_mem_nil→kC,getElem?_take→kE,findIdx?_eq_none_iff→kL,getElem?_eq_some_iff→kM,getD→lc,getElem?_drop→lh,any_eq_true→lw,getElem?_append_right→lN,nodup_append→mD,nodup_cons→mJ,pairwise_append→nY,nodup_range→pq,length_filter_le→qf,pairwise_cons→ql,pairwise_iff_getElem→qM,length_erase_of_mem→rf,pairwise_map→rz,range_succ→rA,length_pos_of_mem→rV,getElem?_toArray→sK,length_range→sQ,mem_erase_of_ne→sS,append_toArray→uA,getElem_of_mem→uE,filter_append→ww,any_eq_false→xz,filter_cons→zA,nodup_nil→BB,filter_filter→FL
open Go.Proofs.Tryz renaming prog→aS,underlying29→ib,underlying3→pE,underlying171→sw,underlying164→wE,underlying0→IP,underlying4→IX,zeroValue29→IY,zeroValue0→Ls,zeroValue3→Lt,zeroValue4→LA,sizeOf29→MC
open Bool renaming and_eq_true→aY,not_false→bJ,not_true→bP,or_eq_true→ed,not_eq_true'→fw,false_eq_true→kz,noConfusion→tT,beq_comm→Md
open Nat renaming le_refl→bi,zero_add→kY,le_trans→mK,lt_of_lt_of_le→rX,one_le_iff_ne_zero→zO,le_antisymm→Li
open Go.Region renaming ready→dS,noSelect_spec→kD,binds→xJ,noSelect→xW
open Array renaming getElem?_eq_some_iff→eF,getElem?_push→lT,getElem?_modify→pV,any_eq_true'→vE,append_empty→vW,empty_append→wm,getElem?_append_left→yC
open Classical renaming byContradiction→iL,not_not→sM,axiomOfChoice→zm
open List.Pairwise renaming filter→ko,nil→lX
open Go.Lib renaming compact→sF
set_option linter.unusedSimpArgs false
set_option linter.unusedVariables false
set_option linter.defProp false
set_option maxRecDepth 100000
namespace Go.Proofs.YtejmkibjpaoahaaGreatDoor
open Go Go.Proofs Go.Eng Tab
set_option maxHeartbeats 2000000
def zCP:=(aD (aD (aD (aD @zEm @zD2) (aD @zEn @zFS)) (aD (aD @by3 @zEO) (aD @zE9 (aD @zE3 @zDX)))) (aD (aD (aD @zEw @zDx) (aD @zGF (aD @sz3 @zHV))) (aD (aD @zEl @zJq) (aD @zDf (aD @zEj @Tryz.underlying29)))))
theorem zOQ {h:Eng.Heap}{er:Env}{ty:TypeId}{m0:Nat}{x y:Operand}{a b:Option Addr}{len cap m c:Nat}{xs ys:List Int}{K:Value->Eng.Heap->Prop}(hx:ev er x= .slice a len cap)(hy:ev er y= .slice b m c)(O:eG m0 h 3 a len cap xs)(h0h:m0<=h.size)(I:eu h b m ys)(hb:len+m<=100000)
 (H:∀a' cap' h',eG m0 h' 3 a' (len+m) cap' (xs++ys)->App h h' a a'->K (.slice a' (len+m) cap') h'):aI aS (.call ⟨.builtin .append,#[x,y],#[29,29]⟩) ty er h K:=
 WW ib ib zDX sz3 (by rw[by3];decide) zDf hx hy O h0h I hb H
theorem zNa (g0:Nat)(who:Int)(h:Eng.Heap):ak aS 48 #[.pointer (some ⟨g0,0,none⟩),.int .i64 who] h (fun v h'=>v= .func (.func 108) #[] #[.pointer (some ⟨h.size,0,none⟩),.pointer (some ⟨h.size+1,0,none⟩)]/\h'=(h.push (.cells #[.pointer (some ⟨g0,0,none⟩)] 92)).push (.cells #[.int .i64 who] 3)):=by
 (refine Rm Tryz.func48 rfl zQB ?_;simp only[Tryz.ntmps48,Tryz.results48,coreS,U1,splice,aC,af,seval])
def zFW (es:List En)(lo hi:Int)(j:Nat):Bool:=match es[j]? with
 |some e=>decide (lo<=e.d)&&decide (e.d<=hi)
 |none=>false
def zsN (l:List Nat):List Int:=l.map fun j:Nat=>(j:Int)
def zN8 (who lo hi:Int)(es:List En)(n:Nat):List Int:=zsN ((zEF who es n).filter (zFW es lo hi))
noncomputable def zGZ (acc cl who lo hi:Int)(es:List En):Int:=if chk acc cl es≠0 then chk acc cl es else if¬(0<=who/\who<acc)then 2 else if¬((0<=lo/\lo<=30)/\0<=hi/\hi<=30)then 3 else 0
noncomputable def zJf (acc cl who lo hi:Int)(es:List En):List Int:=if zGZ acc cl who lo hi es=0 then zN8 who lo hi es es.length else[]
theorem zN6 {who:Int}{es:List En}{n i:Nat}(h:i∈zEF who es n):i<n/\i<es.length:=by
 unfold zEF at h;rw[bR]at h;obtain⟨g,f⟩:=h;refine⟨by simpa using g,?_⟩;unfold touch at f;cases hq:es[i]? with
 |none=>simp[hq]at f
 |some e=>exact(kM.1 hq).1
theorem zKf {α:Type}{p:α->Bool}{l:List α}{i:Nat}(hi:i<l.length):(l.take (i+1)).filter p=(l.take i).filter p++(if p l[i]then[l[i]]else[]):=by
 rw[gY,aF hi,ww];congr 1;cases hp:p l[i]<;>simp[hp]
theorem zNd (acc cl:Int)(es:List En):opn acc cl es []=chk acc cl es:=by
 unfold opn;by_cases h:chk acc cl es=0
 .rw[if_neg (by simpa using h),h];rfl
 .rw[if_pos h]
theorem zKy {s g n c:Nat}{acc cl who:Int}{a:Option Addr}{es:List En}(hn:n=es.length)(hl:n<=20):
 Yc aS (.func (.func 108) #[] #[.pointer (some ⟨s+1,0,none⟩),.pointer (some ⟨s+1+1,0,none⟩)]) (fun h'=>Row h' a (zDA es)/\h'[s+1]? =some (.cells #[.pointer (some ⟨g,0,none⟩)] 92)/\h'[s+1+1]? =some (.cells #[.int .i64 who] 3)/\h'[g]? =some (.cells #[.int .i64 acc,.int .i64 cl,.slice a n c] 181)) (zHM es (zEF who es n)):=by
 refine⟨108,_,_,rfl,fun v o J E u r p j=> ?_⟩;have f:(zHM es (zEF who es n)).length=(zEF who es n).length:=by simp[zHM]
 rw[f];exact zM2 v (s+1) (s+1+1) g acc cl who a n c es o hn hl J E u r p j
theorem zN9 (acc cl:Int)(a:Option Addr)(n c:Nat)(es:List En)(who lo hi:Int)(h:Eng.Heap)(hr:Row h a (zDA es))(hn:n=es.length)(hl:n<=1000000):
 ak aS 13 #[.agg #[.int .i64 acc,.int .i64 cl,.slice a n c],.int .i64 who,.int .i64 lo,.int .i64 hi] h (fun v h'=>(∃b m k,v= .tuple #[.slice b m k,.int .i64 (zGZ acc cl who lo hi es)]/\eu h' b m (zJf acc cl who lo hi es)/\m<=20)/\Ext h h'):=by
 (refine Rm Tryz.func13 rfl zPg ?_;simp only[Tryz.ntmps13,Tryz.results13,coreS,U1,splice,aC,af,seval,zCP])
 simp only[show¬(h.size=h.size+1+1) by omega,if_false,coreS,aC,af,seval,zCP];refine ak.mono (zGD acc cl a n c es _ 0 0 [] _ (((hr.push _).push _).push _) hn hl (eu.nil _) (by omega)) ?_;rintro v h1 ⟨x1,H⟩;have hb0:=x1.get (Jy (Jy (jD (h:=h))));have hb1:=x1.get (Jy pn1);have hb2:h1[h.size+2]? =some (.cells #[.int .i64 hi] 3):=x1.get (by rw[lT,if_pos (by simp)]);have y1:=x1.zBe.zBe.zBe;rw[zNd]at H;rcases H with⟨e0,g,rfl,hg,hsz⟩|⟨e0,rfl⟩
 .obtain⟨ha,hl2,hcl,hok,hso,hft⟩:=zDw e0;simp only[hb0,coreS,aC,af,seval,zCP];refine⟨by rw[zBS];omega,?_⟩;refine ak.mono (zDz 0 (acc-1) _ 1 1 [who] _ (zDD jD) (by omega)) ?_;rintro v h2 ⟨rfl,x2⟩;have c1:=x2.zBe.get hb1;have c2:=x2.zBe.get hb2;have cg:=x2.zBe.get hg;have y2:=y1.trans x2.zBe;by_cases hw:0<=who/\who<=acc-1
  .simp only[zDW,hw,c1,c2,and_self,decide_true,bP,splice,coreS,aC,af,seval,zCP];refine ak.mono (zDz 0 30 _ 2 2 [lo,hi] _ (zGC jD) (by omega)) ?_;rintro v C ⟨rfl,x3⟩;have d1:=x3.zBe.get c1;have d2:=x3.zBe.get c2;have dg:=x3.zBe.get cg;have y3:=y2.trans x3.zBe;by_cases hd:(0<=lo/\lo<=30)/\0<=hi/\hi<=30
   .have hE:zGZ acc cl who lo hi es=0:=by unfold zGZ;rw[if_neg (by simpa using e0),if_neg (by omega),if_neg (by omega)]
    simp only[zEV,hd,and_self,decide_true,bP,coreS,aC,af,seval,zCP];refine ak.mono (zNa g who _) ?_;rintro v h4 ⟨rfl,rfl⟩;simp only[coreS,aC,af,seval,zCP];obtain⟨L,hL⟩:∃L,L=zEF who es n:=⟨_,rfl⟩;have hLl:L.length<=n:=by rw[hL,zEF];exact mK (qf _ _) (by simp)
    have hLm:∀j∈L,j<n/\j<es.length:=fun j hj=>zN6 (by rw[hL]at hj;exact hj)
    have hseq:=zKy (s:=C.size) (g:=g) (c:=c) (acc:=acc) (cl:=cl) (who:=who) (a:=a) hn (by omega);rw[<-hL]at hseq;have hr3:=hr.ext y3;obtain⟨h4,E⟩:∃h4,h4=((C.push (.cells #[.slice none 0 0] 29)).push (.cells #[.pointer (some ⟨g,0,none⟩)] 92)).push (.cells #[.int .i64 who] 3):=⟨_,rfl⟩;have f0:h4[C.size]? =some (.cells #[.slice none 0 0] 29):=by rw[E];exact Jy (Jy jD)
    have f1:h4[C.size+1]? =some (.cells #[.pointer (some ⟨g,0,none⟩)] 92):=by rw[E];exact Jy pn1
    have f2:h4[C.size+1+1]? =some (.cells #[.int .i64 who] 3):=by rw[E,lT,if_pos (by simp)]
    have x4:Ext C h4:=by rw[E];exact(((Ext.refl C).push _).push _).push _
    have s4:h4.size=C.size+3:=by rw[E];simp
    rw[<-E];clear E;have hs1:=bA d1;have hs2:=bA d2;have hs3:=bA dg;refine zAF (xss:=zHM es L) rfl hseq (fun i h'=>Ext C h'/\i<=L.length/\h'[C.size+3]? =some (.deferred (some []))/\h'[C.size+1]? =some (.cells #[.pointer (some ⟨g,0,none⟩)] 92)/\h'[C.size+1+1]? =some (.cells #[.int .i64 who] 3)/\C.size+5<=h'.size/\∃Q r B,h'[C.size]? =some (.cells #[.slice Q r B] 29)/\r<=i/\eG (C.size+5) h' 3 Q r B (zsN ((L.take i).filter (zFW es lo hi)))) (fun _ _=>False) ?_ ?_ ?_ ?_ ?_ ?_ ?_ ?_ ?_
    .intro vs F;simp only[zHM,bz]at F;obtain⟨_,_,rfl⟩:=F;rfl
    .rintro i h' ⟨N,V,O,W,Z,z5,_⟩;exact⟨hr3.ext N,W,Z,N.get dg⟩
    .rintro i h5 h6 ⟨N,V,O,W,Z,z5,Q,r,B,z6,z7,z8⟩ x;exact⟨N.trans x,V,x.get O,x.get W,x.get Z,mK z5 x.size,Q,r,B,x.get z6,z7,z8.ext x⟩
    .rintro i h5 h6 ⟨N,V,O,W,Z,z5,Q,r,B,z6,z7,z8⟩ u;rw[s4]at u;exact⟨u.ext N (by omega),V,u.get O (by omega),u.get W (by omega),u.get Z (by omega),by rw[u.size];exact z5,Q,r,B,u.get z6 (by omega),z7,z8.upd u (by omega)⟩
    .exact fun j h1 h2 H _=>H
    .intro h' x V O;rw[s4]at V O;exact⟨x4.trans x,by omega,V,x.get f1,x.get f2,by omega,none,0,0,x.get f0,by omega,eG.nil _ _ _⟩
    .rintro i h5 vs o F ⟨N,V,O,W,Z,z5,Q,r,B,z6,z7,z8⟩ ho;rw[s4]at ho ⊢;have J:i<L.length:=by
      have:=(kM.1 F).1;simpa[zHM]using this
     have hj:=hLm _ (cZ J);obtain⟨j,hjd⟩:∃j,j=L[i]:=⟨_,rfl⟩;rw[<-hjd]at hj;have hvs2:vs=[.int .i64 j,.agg #[.int .i64 es[j].d,.int .i64 es[j].f,.int .i64 es[j].t,.int .i64 es[j].a]]:=by
      rw[zHM,List.getElem?_map,aF J,<-hjd]at F;simp[lc,aF hj.2,enV]at F;exact F.symm
     subst hvs2;simp only[XG,U1,splice,coreS,aC,af,seval,Uo,YA,XA,Xg,YV,Zi,zCP];refine⟨by rw[if_neg (by omega)];exact ho,fun h6 o2 U ho2=> ?_⟩;have q0:=U.get (jD (h:=h5)) (by omega);have kx:=U.ext (N.push _) (by omega);have k2:=U.get (Jy O) (by omega);have k3:=U.get (Jy W) (by omega);have k4:=U.get (Jy Z) (by omega);have k5:C.size+5<=h6.size:=by rw[U.size,Rh];omega
     have k6:=U.get (Jy z6) (by omega);have k8:=(z8.ext ((Ext.refl h5).push _)).upd U (by omega);clear O W Z z5 z6 z8 U ho N;simp only[kx.get d1,kx.get d2,q0,coreS,aC,af,seval,Uo,YA,XA,Xg,YV,Zi,zCP];refine ak.mono (zDz lo hi _ 1 1 [es[j].d] _ (zDD jD) (by omega)) ?_;rintro v h7 ⟨rfl,T⟩
     replace T:=T.zBe
     have w2:=T.get k2;have w3:=T.get k3;have w4:=T.get k4;have w5:=mK k5 T.size;have w6:=T.get k6;have w8:=k8.ext T;have wx:=kx.trans T;have wo:=T.get ho2;clear k2 k3 k4 k5 k6 k8 kx ho2 q0;have I:=zKf (p:=zFW es lo hi) J;rw[<-hjd]at I;by_cases hw2:lo<=es[j].d/\es[j].d<=hi
     .have hdb:zFW es lo hi j=true:=by simp[zFW,aF hj.2,hw2]
      rw[hdb,if_pos rfl]at I;have el0:((r:Int)-((0:Nat):Int)).toNat=r:=by omega
      simp only[zDW,hw2,and_self,decide_true,w6,splice,coreS,aC,af,Nat.reduceAdd,Nat.reduceSub,Nat.reduceMul,Nat.reduceLeDiff,Int.reduceEq,Nat.reduceEqDiff,Uo,YA,XA,Xg,YV,Zi,zCP];simp only[zKe,ite_self,el0];refine⟨by omega,by omega,by omega,by have:=w8.cap;omega,?_⟩;have O7:=(w8.cut).ext ((Ext.refl h7).push (.cells #[.int .i64 (j:Nat)] 3));refine zOQ rfl rfl O7 (by simp;omega) (zDD jD) (by have:=hLm;omega) fun a8 c8 h8 O8 A=> ?_
      have q2:=A.upd O7 (Jy w2) (by omega);have q3:=A.upd O7 (Jy w3) (by omega);have q4:=A.upd O7 (Jy w4) (by omega);have q6:=A.upd O7 (Jy w6) (by omega);have qo:=A.upd O7 (Jy wo) (by omega);have qx:=A.extN O7 (wx.push _) (by omega);have q5:C.size+5<=h8.size:=mK (by rw[Rh];omega) A.size;clear A O7 w2 w3 w4 w6 wo wx;simp only[q6,coreS,aC,af,seval,Uo,YA,XA,Xg,YV,Zi,zCP];refine Oy q6 (by simp) fun h9 g9 u9=> ?_
      simp only[splice]at g9;simp only[splice,Xj,coreS,aC,af,seval,Uo,YA,XA,Xg,YV,Zi,zCP];refine⟨u9.get qo (by omega),u9.ext qx (by omega),J,u9.get q2 (by omega),u9.get q3 (by omega),u9.get q4 (by omega),by rw[u9.size];exact q5,a8,_,c8,g9,by omega,?_⟩;have e5:zsN ((L.take (i+1)).filter (zFW es lo hi))=zsN ((L.take i).filter (zFW es lo hi))++[(j:Int)]:=by rw[I];simp[zsN]
      rw[e5];exact O8.upd u9 (by omega)
     .have hdb:zFW es lo hi j=false:=by simp[zFW,aF hj.2];omega
      rw[hdb,if_neg (by decide),bK]at I;simp only[zDW,hw2,decide_false,Xj,coreS,aC,af,seval,Uo,YA,XA,Xg,YV,Zi,zCP];exact⟨wo,wx,J,w2,w3,w4,w5,Q,r,B,w6,by omega,by rw[I];exact w8⟩
    .rintro h5 ⟨N,V,O,W,Z,z5,Q,r,B,z6,z7,z8⟩;have e6:(zHM es L).length=L.length:=by simp[zHM]
     rw[e6,bI (bi _)]at z8;rw[e6]at z7;rw[s4];simp only[z6,coreS,aC,af,seval,Uo,YA,XA,Xg,YV,Zi,zCP];refine zBD O ?_;simp only[coreS,aC,af,seval,Uo,YA,XA,Xg,YV,Zi,zCP];refine⟨⟨Q,r,B,by rw[hE],?_,by omega⟩,y3.trans (Upd.set.ext N (by omega))⟩;rw[zJf,if_pos hE,zN8,<-hn,<-hL];exact(z8.upd Upd.set (by omega)).ints
    .exact fun j h' H=>H.elim
   .have hE:zGZ acc cl who lo hi es=3:=by unfold zGZ;rw[if_neg (by simpa using e0),if_neg (by omega),if_pos (by omega)]
    simp only[zEV,hd,decide_false,bJ,coreS,aC,af,seval,zCP];exact⟨⟨_,_,_,by rw[hE],by rw[zJf,if_neg (by omega)];exact eu.nil _,by omega⟩,y3⟩
  .have hE:zGZ acc cl who lo hi es=2:=by unfold zGZ;rw[if_neg (by simpa using e0),if_pos (by omega)]
   simp only[zDW,hw,decide_false,bJ,coreS,aC,af,seval,zCP];exact⟨⟨_,_,_,by rw[hE],by rw[zJf,if_neg (by omega)];exact eu.nil _,by omega⟩,y2⟩
 .have hE:zGZ acc cl who lo hi es=chk acc cl es:=by unfold zGZ;rw[if_pos e0]
  simp only[e0,decide_false,bJ,coreS,aC,af,seval,zCP];exact⟨⟨_,_,_,by rw[hE],by rw[zJf,if_neg (by omega)];exact eu.nil _,by omega⟩,y1⟩
end Go.Proofs.YtejmkibjpaoahaaGreatDoor
namespace Go.Proofs.YtejmkibjpaoahaaGreatDoor.Mo
namespace MB
section
variable {D a b:Nat}{c:Nat->Nat}{i m:Nat}{mo:Nat->Nat}{n:Nat}{sh:Nat->Nat}
theorem zD1:∀{l m:List Nat},l.Nodup->(∀x∈l,x∈m)->l.length<=m.length
 |[],_,_,_=>by simp
 |x::l,m,hn,h=>by
  obtain⟨j,o⟩:=mJ.1 hn;have p:=zD1 (l:=l) (m:=m.erase x) o (fun y g=>(sS (fun e=>j (by rw[<-e];exact g))).2 (h y (bD _ g)));have f:=h x bE;rw[rf f]at p;have r:=rV f;rw[aZ];omega
def cnt (P:Nat->Bool)(n:Nat):Nat:=((bn n).filter P).length
theorem zDJ (P:Nat->Bool)(n:Nat):cnt P (n+1)=cnt P n+if P n=true then 1 else 0:=by
 rw[cnt,rA,ww,bQ];cases h:P n<;>simp[h,cnt]
theorem zId (P:Nat->Bool):cnt P 0=0:=rfl
theorem zGr (P:Nat->Bool)(n:Nat):cnt P n<=n:=by
 have:=qf P (bn n);rw[sQ]at this;exact this
def right (sh mo c:Nat->Nat)(n:Nat):Prop:=∀i k,i<n->k<n->i≠k->c i=c k->sh i≠sh k/\mo i≠mo k
inductive Rch (sh mo c:Nat->Nat)(n a b m:Nat):Nat->Prop
 |base (i:Nat):i<n->mo i=m->c i=a->Rch sh mo c n a b m i
 |bys (i k:Nat):Rch sh mo c n a b m i->c i=a->k<n->sh k=sh i->c k=b->Rch sh mo c n a b m k
 |bym (i k:Nat):Rch sh mo c n a b m i->c i=b->k<n->mo k=mo i->c k=a->Rch sh mo c n a b m k
theorem Rch.lt (h:Rch sh mo c n a b m i):i<n:=by cases h<;>assumption
theorem Rch.two (h:Rch sh mo c n a b m i):c i=a\/c i=b:=by
 cases h with
 |base _ _ _ h=>exact .inl h
 |bys _ _ _ _ _ _ h=>exact .inr h
 |bym _ _ _ _ _ _ h=>exact .inl h
theorem Rch.closed {k:Nat}(R:right sh mo c n)(hab:a≠b)(hb:∀i,i<n->mo i=m->c i≠b)(h:Rch sh mo c n a b m i)(hk:k<n)(hc:c k=a\/c k=b)(hcl:sh i=sh k\/mo i=mo k):Rch sh mo c n a b m k:=by
 by_cases v:i=k
 .exact v▸h
 have A:=h.lt;have same:c i=c k->False:=fun e=>by
  have:=R i k A hk v e;rcases hcl with f|f
  .exact this.1 f
  .exact this.2 f
 rcases h.two with u|p
 .rcases hc with r|o
  .exact(same (u.trans r.symm)).elim
  .rcases hcl with f|f
   .exact .bys i k h u hk f.symm o
   .cases h with
    |base _ _ hm _=>exact absurd o (hb k hk (f.symm.trans hm))
    |bys _ _ _ _ _ _ h2=>exact absurd (u.symm.trans h2) hab
    |bym j _ hj hjb _ hm _=>
     by_cases g:j=k
     .exact g▸hj
     .exact absurd (hm.symm.trans f) (R j k hj.lt hk g (hjb.trans o.symm)).2
 .rcases hc with r|o
  .rcases hcl with f|f
   .cases h with
    |base _ _ _ h2=>exact absurd (h2.symm.trans p) hab
    |bys j _ hj hja _ hs _=>
     by_cases g:j=k
     .exact g▸hj
     .exact absurd (hs.symm.trans f) (R j k hj.lt hk g (hja.trans r.symm)).1
    |bym _ _ _ _ _ _ h2=>exact absurd (h2.symm.trans p) hab
   .exact .bym i k h p hk f.symm r
  .exact(same (p.trans o.symm)).elim
theorem zHq (R:right sh mo c n)(hs:∀i,i<n->sh i=sh n->c i≠a)(hm:∀i,i<n->mo i=mo n->c i≠a):right sh mo (fun i=>if i=n then a else c i) (n+1):=by
 intro i k u v p f;simp only at f;by_cases o:i=n
 .subst o;have j:k<i:=by omega
  rw[if_pos rfl,if_neg (by omega)]at f;exact⟨fun e=>hs k j e.symm f.symm,fun e=>hm k j e.symm f.symm⟩
 .by_cases r:k=n
  .subst r;have g:i<k:=by omega
   rw[if_neg o,if_pos rfl]at f;exact⟨fun e=>hs i g e f,fun e=>hm i g e f⟩
  .rw[if_neg o,if_neg r]at f;exact R i k (by omega) (by omega) p f
end
end MB
end Go.Proofs.YtejmkibjpaoahaaGreatDoor.Mo
namespace Go.Proofs.YtejmkibjpaoahaaGreatDoor.Mo
namespace MB
section
variable {M:Nat}{P:Nat->Bool}{i m:Nat}{mo:Nat->Nat}{n:Nat}{sh:Nat->Nat}{sm:List Nat}
theorem zFE {Q:Nat->Bool}(h:∀i,i<n->P i=Q i):cnt P n=cnt Q n:=by
 induction n with
 |zero=>rfl
 |succ n ih=>rw[zDJ,zDJ,ih fun i f=>h i (by omega),h n (by omega)]
theorem zIG {Q:Nat->Bool}{a:Nat}(ha:a<n)(h:∀i,i≠a->P i=Q i):cnt P n+(if Q a=true then 1 else 0)=cnt Q n+(if P a=true then 1 else 0):=by
 induction n with
 |zero=>omega
 |succ n ih=>
  rw[zDJ,zDJ];by_cases f:a=n
  .subst f;rw[zFE (P:=P) (Q:=Q) fun i j=>h i (by omega)];omega
  .have g:=ih (by omega);rw[h n (fun e=>f e.symm)];omega
theorem zG3 (h:1<=cnt P n):∃i,i<n/\P i=true:=by
 induction n with
 |zero=>exact absurd h (by rw[zId];omega)
 |succ n ih=>
  rw[zDJ]at h;by_cases f:P n=true
  .exact⟨n,by omega,f⟩
  .rw[if_neg f]at h;obtain⟨i,j,g⟩:=ih h;exact⟨i,by omega,g⟩
theorem zNH {k:Nat}(h:cnt P n<=1)(hi:i<n)(hk:k<n)(hpi:P i=true)(hpk:P k=true):i=k:=by
 apply iL;intro f;have j:=zD1 (l:=[i,k]) (m:=(bn n).filter P) (by simp[f]) (fun x g=>by
  simp only[cK,kC,or_false]at g;rcases g with rfl|rfl
  .exact bR.2 ⟨aX.2 hi,hpi⟩
  .exact bR.2 ⟨aX.2 hk,hpk⟩)
 have o:((bn n).filter P).length<=1:=h;simp only[aZ,bL]at j;omega
structure St where
 by_:Nat->Option Nat
 seen:Nat->Bool
def St.mark (t:St)(m:Nat):St:=⟨t.by_,fun x=>if x=m then true else t.seen x⟩
def St.give (t:St)(m i:Nat):St:=⟨fun x=>if x=m then some i else t.by_ x,t.seen⟩
def zET (sh mo:Nat->Nat)(rec:Nat->St->Bool×St)(shop:Nat):List Nat->St->Bool×St
 |[],t=>(false,t)
 |i::l,t=>
  if sh i≠shop\/t.seen (mo i)=true then zET sh mo rec shop l t
  else match t.by_ (mo i)with
   |none=>(true,(t.mark (mo i)).give (mo i) i)
   |some old=>
    if(rec (sh old) (t.mark (mo i))).1=true then(true,(rec (sh old) (t.mark (mo i))).2.give (mo i) i)
    else zET sh mo rec shop l (rec (sh old) (t.mark (mo i))).2
def zLJ (sh mo:Nat->Nat)(sm:List Nat):Nat->Nat->St->Bool×St
 |0,_,t=>(false,t)
 |f+1,shop,t=>zET sh mo (zLJ sh mo sm f) shop sm t
def zEQ (sh:Nat->Nat)(t:St)(s m:Nat):Bool:=match t.by_ m with|some i=>sh i==s|none=>false
def served (sh:Nat->Nat)(M:Nat)(t:St)(s:Nat):Nat:=cnt (zEQ sh t s) M
structure Closed (sh mo:Nat->Nat)(sm:List Nat)(t:St)(Ds Dm:Nat->Prop):Prop where
 m:∀m,Dm m->∃i,t.by_ m=some i/\Ds (sh i)
 s:∀i,i∈sm->Ds (sh i)->Dm (mo i)
structure Inv (mo:Nat->Nat)(sm:List Nat)(t:St):Prop where
 ok:∀m i,t.by_ m=some i->i∈sm/\mo i=m
structure Post (sh mo:Nat->Nat)(sm:List Nat)(M shop:Nat)(L:List Nat)(t:St)(r:Bool)(t':St):Prop where
 up:∀m,t.seen m=true->t'.seen m=true
 inv:Inv mo sm t'
 no:r=false->t'.by_=t.by_/\(∀i,i∈L->sh i=shop->t'.seen (mo i)=true)/\∀m,t'.seen m=true->t.seen m≠true->∃i,t.by_ m=some i/\∀k,k∈sm->sh k=sh i->t'.seen (mo k)=true
 yes:r=true->(∀s,served sh M t' s=served sh M t s+if s=shop then 1 else 0)/\(∀m,t.seen m=true->t'.by_ m=t.by_ m)/\∀Ds Dm,Closed sh mo sm t Ds Dm->¬Ds shop/\∀m,Dm m->t'.by_ m=t.by_ m
def unseen (M:Nat)(t:St):Nat:=cnt (fun m=> !t.seen m) M
theorem zJR {t:St}(hm:m<M)(h:t.seen m≠true):unseen M (t.mark m)+1=unseen M t:=by
 have f:=zIG (P:=fun x=> !(t.mark m).seen x) (Q:=fun x=> !t.seen x) hm (fun i o=>by
  show(!(if i=m then true else t.seen i))=_;rw[if_neg o])
 have g:(t.mark m).seen m=true:=by show(if m=m then true else t.seen m)=true;rw[if_pos rfl]
 simp only[g,bP,kz,if_false,Nat.add_zero]at f;have j:t.seen m=false:=by simpa using h
 simp only[j,bJ,if_true]at f;exact f
theorem zLT {t t':St}(h:∀m,t.seen m=true->t'.seen m=true):unseen M t'<=unseen M t:=by
 unfold unseen;induction M with
 |zero=>exact bi _
 |succ M ih=>
  rw[zDJ,zDJ];have:=h M;cases h1:t.seen M<;>cases h2:t'.seen M<;>simp_all<;>omega
theorem zE7 {t t':St}(h:t'.by_=t.by_)(s:Nat):served sh M t' s=served sh M t s:=by
 unfold served;exact zFE fun i _=>by unfold zEQ;rw[h]
theorem Closed.of_by {t t':St}{Ds Dm:Nat->Prop}(h:t'.by_=t.by_)(c:Closed sh mo sm t Ds Dm):Closed sh mo sm t' Ds Dm:=⟨fun m f=>by rw[h];exact c.m m f,c.s⟩
theorem Inv.of_by {t t':St}(h:t'.by_=t.by_)(c:Inv mo sm t):Inv mo sm t':=⟨fun m i f=>c.ok m i (by rw[<-h];exact f)⟩
theorem Inv.give {t:St}(c:Inv mo sm t)(hi:i∈sm):Inv mo sm (t.give (mo i) i):=⟨fun m j f=>by
 have f:(if m=mo i then some i else t.by_ m)=some j:=f;split at f
 .cases f;rename_i h;exact⟨hi,h.symm⟩
 .exact c.ok m j f⟩
theorem zHi (t:St)(m:Nat):(t.mark m).seen m=true:=by show(if m=m then true else t.seen m)=true;rw[if_pos rfl]
theorem zFg {t:St}{x:Nat}(h:t.seen x=true):(t.mark m).seen x=true:=by
 show(if x=m then true else t.seen x)=true;split
 .rfl
 .exact h
theorem zMU {t:St}{x:Nat}(h:(t.mark m).seen x=true)(h2:t.seen x≠true):x=m:=by
 have h:(if x=m then true else t.seen x)=true:=h;split at h
 .assumption
 .exact absurd h h2
theorem zGT {t:St}(hm:mo i<M)(s:Nat):served sh M (t.give (mo i) i) s+(if zEQ sh t s (mo i)=true then 1 else 0)=served sh M t s+if s=sh i then 1 else 0:=by
 have f:=zIG (P:=zEQ sh (t.give (mo i) i) s) (Q:=zEQ sh t s) hm (fun x j=>by
  unfold zEQ;rw[show(t.give (mo i) i).by_ x=t.by_ x from if_neg j])
 have g:zEQ sh (t.give (mo i) i) s (mo i)=(sh i==s):=by
  unfold zEQ;rw[show(t.give (mo i) i).by_ (mo i)=some i from if_pos rfl]
 rw[g]at f;unfold served;rw[f];by_cases e:s=sh i
 .rw[if_pos e,if_pos (by simp[e])]
 .rw[if_neg e,if_neg (by simp[Ne.symm e])]
theorem zF2 {sh mo:Nat->Nat}{sm:List Nat}{M shop f:Nat}{rec:Nat->St->Bool×St}(hmo:∀i,i∈sm->mo i<M)
 (hrec:∀s t,Inv mo sm t->unseen M t<f->Post sh mo sm M s sm t (rec s t).1 (rec s t).2):
 ∀(L:List Nat) (t:St),(∀i,i∈L->i∈sm)->Inv mo sm t->unseen M t<=f->Post sh mo sm M shop L t (zET sh mo rec shop L t).1 (zET sh mo rec shop L t).2
 |[],t,hL,hI,hf=>⟨fun m h=>h,hI,fun _=>⟨rfl,fun i H=>absurd H kC,fun m h B=>absurd h B⟩,fun h=>by cases h⟩
 |i::l,t,hL,hI,hf=>by
  have H:=hL i bE;have T:∀j,j∈l->j∈sm:=fun j g=>hL j (bD _ g)
  by_cases A:sh i≠shop\/t.seen (mo i)=true
  .have e:zET sh mo rec shop (i::l) t=zET sh mo rec shop l t:=by rw[zET,if_pos A]
   rw[e];have P:=zF2 (shop:=shop) hmo hrec l t T hI hf;refine⟨P.up,P.inv,fun V=> ?_,P.yes⟩;obtain⟨W,Z,p3⟩:=P.no V;refine⟨W,fun j g v=> ?_,p3⟩;rcases cK.1 g with rfl|g
   .rcases A with A|A
    .exact absurd v A
    .exact P.up _ A
   .exact Z j g v
  have E:sh i=shop:=sM.1 fun h=>A (.inl h)
  have N:t.seen (mo i)≠true:=fun h=>A (.inr h)
  have hM:=hmo i H;have hu:=zJR hM N;have Q:Inv mo sm (t.mark (mo i)):=Inv.of_by (t:=t) rfl hI;cases hb:t.by_ (mo i)with
  |none=>
   have e:zET sh mo rec shop (i::l) t=(true,(t.mark (mo i)).give (mo i) i):=by rw[zET,if_neg A,hb]
   rw[e];refine⟨fun m h=>zFg h,Q.give H,fun h=>tT h,fun _=>⟨fun s=> ?_,fun m p=> ?_,fun Ds Dm c=>⟨fun v=> ?_,fun m p=> ?_⟩⟩⟩
   .have B:=zGT (sh:=sh) (mo:=mo) (t:=t.mark (mo i)) hM s;have O:zEQ sh (t.mark (mo i)) s (mo i)=false:=by
     unfold zEQ;rw[show(t.mark (mo i)).by_ (mo i)=none from hb]
    rw[O,E,zE7 (t:=t) (t':=t.mark (mo i)) rfl]at B;simpa using B
   .exact if_neg (fun e:m=mo i=>N (e▸p))
   .obtain⟨j,g,_⟩:=c.m _ (c.s i H (E.symm▸v));rw[hb]at g;cases g
   .refine if_neg (fun e=> ?_);obtain⟨j,g,_⟩:=c.m m p;rw[e,hb]at g;cases g
  |some old=>
   have C:=hrec (sh old) (t.mark (mo i)) Q (by omega);obtain⟨r1,I⟩:∃r,(rec (sh old) (t.mark (mo i))).1=r:=⟨_,rfl⟩;obtain⟨o,J⟩:∃r,(rec (sh old) (t.mark (mo i))).2=r:=⟨_,rfl⟩;rw[I,J]at C;cases r1 with
   |true=>
    have e:zET sh mo rec shop (i::l) t=(true,o.give (mo i) i):=by rw[zET,if_neg A,hb];simp only[I,J,if_true]
    rw[e];obtain⟨q1,q2,q3⟩:=C.yes rfl;have hb2:o.by_ (mo i)=some old:=(q2 _ (zHi t (mo i))).trans hb;refine⟨fun m h=>C.up m (zFg h),C.inv.give H,fun h=>tT h,fun _=>⟨fun s=> ?_,fun m p=> ?_,fun Ds Dm c=> ?_⟩⟩
    .have B:=zGT (sh:=sh) (mo:=mo) (t:=o) hM s;have O:zEQ sh o s (mo i)=(sh old==s):=by unfold zEQ;rw[hb2]
     rw[O,q1 s,zE7 (t:=t) (t':=t.mark (mo i)) rfl,E]at B;by_cases e:s=sh old
     .rw[if_pos e,if_pos (by simp[e])]at B;show served sh M (o.give (mo i) i) s=_;omega
     .rw[if_neg e,if_neg (by simp[Ne.symm e])]at B;show served sh M (o.give (mo i) i) s=_;omega
    .have:(o.give (mo i) i).by_ m=o.by_ m:=if_neg (fun e:m=mo i=>N (e▸p));show(o.give (mo i) i).by_ m=_;rw[this,q2 m (zFg p)];rfl
    .obtain⟨z1,z2⟩:=q3 Ds Dm (Closed.of_by (t:=t) rfl c);refine⟨fun v=> ?_,fun m p=> ?_⟩
     .obtain⟨j,g,hd⟩:=c.m _ (c.s i H (E.symm▸v));rw[hb]at g;cases g;exact z1 hd
     .have hne:m≠mo i:=fun e=>by
       obtain⟨j,g,hd⟩:=c.m m p;rw[e,hb]at g;cases g;exact z1 hd
      have:(o.give (mo i) i).by_ m=o.by_ m:=if_neg hne;show(o.give (mo i) i).by_ m=_;rw[this,z2 m p];rfl
   |false=>
    have e:zET sh mo rec shop (i::l) t=zET sh mo rec shop l o:=by rw[zET,if_neg A,hb];simp only[I,J,kz,if_false]
    rw[e];obtain⟨q1,q2,q3⟩:=C.no rfl;have u:o.by_=t.by_:=q1;have hu2:=zLT (M:=M) C.up;have F:=zF2 (shop:=shop) hmo hrec l o T C.inv (by omega);refine⟨fun m h=>F.up m (C.up m (zFg h)),F.inv,fun V=> ?_,fun V=> ?_⟩
    .obtain⟨W,Z,p3⟩:=F.no V;refine⟨W.trans u,fun j g v=> ?_,fun m p hn=> ?_⟩
     .rcases cK.1 g with rfl|g
      .exact F.up _ (C.up _ (zHi t _))
      .exact Z j g v
     .by_cases B:o.seen m=true
      .by_cases O:(t.mark (mo i)).seen m=true
       .obtain rfl:=zMU O hn;exact⟨old,hb,fun k U v=>F.up _ (q2 k U v)⟩
       .obtain⟨j,g,U⟩:=q3 m B O;exact⟨j,g,fun k hk1 v=>F.up _ (U k hk1 v)⟩
      .obtain⟨j,g,U⟩:=p3 m p B;exact⟨j,by rw[<-u];exact g,U⟩
    .obtain⟨W,Z,p3⟩:=F.yes V;refine⟨fun s=>by rw[W s,zE7 u],fun m p=>by rw[Z m (C.up m (zFg p)),u],fun Ds Dm c=> ?_⟩;obtain⟨z1,z2⟩:=p3 Ds Dm (c.of_by u);exact⟨z1,fun m p=>by rw[z2 m p,u]⟩
theorem zHr {sh mo:Nat->Nat}{sm:List Nat}{M:Nat}(hmo:∀i,i∈sm->mo i<M):∀(f shop:Nat) (t:St),Inv mo sm t->unseen M t<f->Post sh mo sm M shop sm t (zLJ sh mo sm f shop t).1 (zLJ sh mo sm f shop t).2
 |0,_,_,_,h=>absurd h (by omega)
 |f+1,shop,t,g,h=>zF2 hmo (fun s t g h=>zHr hmo f s t g h) sm t (fun i j=>j) g (by omega)
end
end MB
end Go.Proofs.YtejmkibjpaoahaaGreatDoor.Mo
namespace Go.Proofs.YtejmkibjpaoahaaGreatDoor.Mo
namespace MB
section
variable {L:List Nat}{mo sh:Nat->Nat}{sm:List Nat}
def mby (sh mo:Nat->Nat)(sm:List Nat)(M:Nat):Nat->Nat->Option Nat
 |0=>fun _=>none
 |k+1=>(zLJ sh mo sm (M+1) k ⟨mby sh mo sm M k,fun _=>false⟩).2.by_
def mst (sh mo:Nat->Nat)(sm:List Nat)(M k:Nat):St:=⟨mby sh mo sm M k,fun _=>false⟩
structure MInv (sh mo:Nat->Nat)(sm:List Nat)(M k:Nat)(t:St):Prop where
 inv:Inv mo sm t
 one:∀s,served sh M t s<=1
 zero:∀s,k<=s->served sh M t s=0
 dead:∃Ds Dm,Closed sh mo sm t Ds Dm/\∀s,s<k->served sh M t s=1\/Ds s
theorem zJp (M:Nat)(b:Nat->Option Nat):unseen M ⟨b,fun _=>false⟩<=M:=zGr _ _
theorem zHj {sh mo:Nat->Nat}{sm:List Nat}{M:Nat}(hmo:∀i,i∈sm->mo i<M):∀k,MInv sh mo sm M k (mst sh mo sm M k)
 |0=>⟨⟨fun m i h=>by cases h⟩,fun s=>by
  have:served sh M (mst sh mo sm M 0) s=0:=by
   unfold served;induction M with
   |zero=>rfl
   |succ n ih=>
    rw[zDJ];have e:cnt (zEQ sh (mst sh mo sm (n+1) 0) s) n=cnt (fun _=>false) n:=zFE fun i _=>rfl
    have C:∀n,cnt (fun _=>false) n=0:=fun n=>by induction n with
     |zero=>rfl
     |succ n ih=>rw[zDJ,ih];rfl
    rw[e,C];rfl
  omega,fun s _=>by
   unfold served;have e:cnt (zEQ sh (mst sh mo sm M 0) s) M=cnt (fun _=>false) M:=zFE fun i _=>rfl
   have C:∀n,cnt (fun _=>false) n=0:=fun n=>by induction n with
    |zero=>rfl
    |succ n ih=>rw[zDJ,ih];rfl
   rw[e,C],fun _=>False,fun _=>False,⟨fun m h=>h.elim,fun i _ h=>h.elim⟩,fun s u=>by omega⟩
 |k+1=>by
  have I:=zHj (sh:=sh) hmo k;have P:=zHr (sh:=sh) hmo (M+1) k (mst sh mo sm M k) I.inv (by have:=zJp M (mby sh mo sm M k);exact Nat.lt_succ_of_le this);obtain⟨r,U⟩:∃r,(zLJ sh mo sm (M+1) k (mst sh mo sm M k)).1=r:=⟨_,rfl⟩;obtain⟨t',J⟩:∃r,(zLJ sh mo sm (M+1) k (mst sh mo sm M k)).2=r:=⟨_,rfl⟩;have T:mst sh mo sm M (k+1)=⟨t'.by_,fun _=>false⟩:=by rw[<-J];rfl
  rw[U,J]at P;obtain⟨B,A,p,H⟩:=I.dead;rw[T];cases r with
  |true=>
   obtain⟨f,N,v⟩:=P.yes rfl;obtain⟨Z,V⟩:=v B A p;have e:∀s,served sh M ⟨t'.by_,fun _=>false⟩ s=served sh M (mst sh mo sm M k) s+if s=k then 1 else 0:=fun s=>(zE7 (t:=t') (t':=⟨t'.by_,fun _=>false⟩) rfl s).trans (f s)
   refine⟨Inv.of_by (t:=t') rfl P.inv,fun s=> ?_,fun s u=> ?_,B,A,⟨fun m h=> ?_,p.s⟩,fun s u=> ?_⟩
   .rw[e];split
    .rename_i h;rw[I.zero s (by omega)];omega
    .have:=I.one s;omega
   .rw[e,if_neg (by omega),I.zero s (by omega)]
   .show∃i,t'.by_ m=some i/\_;rw[V m h];exact p.m m h
   .rw[e];by_cases h:s=k
    .rw[if_pos h,I.zero s (by omega)];exact .inl rfl
    .rw[if_neg h];exact H s (by omega)
  |false=>
   obtain⟨f,N,v⟩:=P.no rfl;have e:∀s,served sh M ⟨t'.by_,fun _=>false⟩ s=served sh M (mst sh mo sm M k) s:=fun s=>zE7 f s
   refine⟨Inv.of_by (t:=t') rfl P.inv,fun s=>by rw[e];exact I.one s,fun s u=>by rw[e];exact I.zero s (by omega),fun s=>B s\/s=k\/∃m i,t'.seen m=true/\t'.by_ m=some i/\sh i=s,fun m=>A m\/t'.seen m=true,⟨fun m h=> ?_,fun i E h=> ?_⟩,fun s u=> ?_⟩
   .show∃i,t'.by_ m=some i/\_;rcases h with h|h
    .obtain⟨i,g,o⟩:=p.m m h;exact⟨i,by rw[f];exact g,.inl o⟩
    .obtain⟨i,g,o⟩:=v m h (fun h=>tT h);exact⟨i,by rw[f];exact g,.inr (.inr ⟨m,i,h,by rw[f];exact g,rfl⟩)⟩
   .rcases h with h|h|⟨m,j,g,o,O⟩
    .exact .inl (p.s i E h)
    .exact .inr (N i E h)
    .obtain⟨W,F,Q⟩:=v m g (fun h=>tT h);rw[f]at o;rw[o]at F;cases F;exact .inr (Q i E O.symm)
   .rw[e];by_cases h:s=k
    .exact .inr (.inr (.inl h))
    .rcases H s (by omega)with h|h
     .exact .inl h
     .exact .inr (.inl h)
def free (sh mo:Nat->Nat)(L:List Nat):Prop:=L.Pairwise fun i k=>sh i≠sh k/\mo i≠mo k
structure Mx (sh mo:Nat->Nat)(sm:List Nat)(n:Nat):Prop where
 some_:∃L,free sh mo L/\(∀i,i∈L->i∈sm)/\L.length=n
 most:∀L,free sh mo L->(∀i,i∈L->i∈sm)->L.length<=n
def size (M:Nat)(t:St):Nat:=cnt (fun m=>(t.by_ m).isSome) M
theorem zDe {t:St}{s m:Nat}:zEQ sh t s m=true<->∃i,t.by_ m=some i/\sh i=s:=by
 unfold zEQ;cases h:t.by_ m with
 |none=>simp
 |some i=>simp
theorem zIM (h:free sh mo L){i k:Nat}(hi:i∈L)(hk:k∈L)(hne:i≠k):sh i≠sh k/\mo i≠mo k:=by
 induction L with
 |nil=>exact absurd hi kC
 |cons x l ih=>
  obtain⟨j,p⟩:=ql.1 h;rcases cK.1 hi with e|f<;>rcases cK.1 hk with o|g
  .exact absurd (e.trans o.symm) hne
  .subst e;exact j k g
  .subst o;exact⟨fun e=>(j i f).1 e.symm,fun e=>(j i f).2 e.symm⟩
  .exact ih p f g
theorem zE6 {f:Nat->Nat}{l:List Nat}(hn:l.Nodup)(h:∀i k,i∈l->k∈l->i≠k->f i≠f k):(l.map f).Nodup:=by
 rw[List.Nodup,rz];exact hn.imp_of_mem fun{i k} j o g=>h i k j o g
theorem zFX (h:free sh mo L):L.Nodup:=h.imp fun{i k} f e=>f.1 (by rw[e])
open Classical in
theorem zJd {M S:Nat}{t:St}(hmo:∀i,i∈sm->mo i<M)(hsh:∀i,i∈sm->sh i<S)(I:MInv sh mo sm M S t)(hL:free sh mo L)(hs:∀i,i∈L->i∈sm):L.length<=size M t:=by
 obtain⟨u,W,C,hd⟩:=I.dead;have h1:∀s,∃m,s<S->¬u s->m<M/\zEQ sh t s m=true:=fun s=>by
  by_cases h:s<S/\¬u s
  .obtain⟨m,hm,A⟩:=zG3 (P:=zEQ sh t s) (n:=M) (by rcases hd s h.1 with p|p
                                                  .exact Nat.le_of_eq p.symm
                                                  .exact absurd p h.2)
   exact⟨m,fun _ _=>⟨hm,A⟩⟩
  .exact⟨0,fun p O=>absurd ⟨p,O⟩ h⟩
 obtain⟨g,J⟩:=zm h1;have E:∀s,s<S->¬u s->¬W (g s):=fun s A p O=>by
  obtain⟨i,h5,h6⟩:=zDe.1 (J s A p).2;obtain⟨j,T,h8⟩:=C.m _ O;rw[h5]at T;cases T;exact p (h6▸h8)
 have F:=zD1 (l:=L.map fun i=>if u (sh i)then mo i else g (sh i)) (m:=(bn M).filter fun m=>(t.by_ m).isSome) (zE6 (zFX hL) fun i k N V Q r=>by
  have U:=zIM hL N V Q;have f:=hs i N;have B:=hs k V;by_cases o:u (sh i)<;>by_cases v:u (sh k)
  .rw[if_pos o,if_pos v]at r;exact U.2 r
  .rw[if_pos o,if_neg v]at r;exact E _ (hsh k B) v (r▸C.s i f o)
  .rw[if_neg o,if_pos v]at r;exact E _ (hsh i f) o (r▸C.s k B v)
  .rw[if_neg o,if_neg v]at r;obtain⟨a,H,Z⟩:=zDe.1 (J _ (hsh i f) o).2;obtain⟨b,b1,b2⟩:=zDe.1 (J _ (hsh k B) v).2;rw[r,b1]at H;cases H;exact U.1 (Z.symm.trans b2)) (fun x hx=>by
  obtain⟨i,N,rfl⟩:=bz.1 hx;have f:=hs i N;refine bR.2 ?_;by_cases o:u (sh i)
  .rw[if_pos o];obtain⟨j,A,_⟩:=C.m _ (C.s i f o);exact⟨aX.2 (hmo i f),by rw[A];rfl⟩
  .rw[if_neg o];obtain⟨A,p⟩:=J _ (hsh i f) o;obtain⟨a,H,_⟩:=zDe.1 p;exact⟨aX.2 A,by rw[H];rfl⟩)
 rw[ek]at F;exact F
def lst (t:St):Nat->List Nat
 |0=>[]
 |m+1=>lst t m++(match t.by_ m with|some i=>[i]|none=>[])
theorem zES (t:St):∀m,(lst t m).length=size m t
 |0=>rfl
 |m+1=>by
  have f:=zES t m;unfold size at f ⊢;rw[lst,bQ,f,zDJ];cases t.by_ m<;>rfl
theorem zFH {t:St}{i:Nat}:∀{m:Nat},i∈lst t m<->∃x,x<m/\t.by_ x=some i
 |0=>by simp[lst]
 |m+1=>by
  rw[lst,cz,zFH (m:=m)];constructor
  .rintro(⟨x,g,f⟩|h)
   .exact⟨x,by omega,f⟩
   .cases hb:t.by_ m with
    |none=>rw[hb]at h;exact absurd h kC
    |some j=>
     rw[hb]at h;obtain rfl:=bv.1 h;exact⟨m,by omega,hb⟩
  .rintro⟨x,g,f⟩;by_cases e:x=m
   .subst e;rw[f];exact .inr (bv.2 rfl)
   .exact .inl ⟨x,by omega,f⟩
theorem zEx {sh mo:Nat->Nat}{sm:List Nat}{M k:Nat}{t:St}(I:MInv sh mo sm M k t):∀m,m<=M->free sh mo (lst t m)
 |0,_=>lX
 |m+1,h=>by
  rw[lst];refine nY.2 ⟨zEx I m (by omega),by cases t.by_ m<;>simp,fun i o j f=> ?_⟩;cases hb:t.by_ m with
  |none=>rw[hb]at f;exact absurd f kC
  |some q=>
   rw[hb]at f;obtain rfl:=bv.1 f;obtain⟨x,u,g⟩:=zFH.1 o;refine⟨fun e=> ?_,fun e=> ?_⟩
   .have:=zNH (P:=zEQ sh t (sh j)) (n:=M) (i:=x) (k:=m) (I.one (sh j)) (by omega) (by omega) (zDe.2 ⟨i,g,e⟩) (zDe.2 ⟨j,hb,rfl⟩);omega
   .have p:=(I.inv.ok x i g).2;have r:=(I.inv.ok m j hb).2;omega
theorem zMV {M S:Nat}(hmo:∀i,i∈sm->mo i<M)(hsh:∀i,i∈sm->sh i<S):Mx sh mo sm (size M (mst sh mo sm M S)):=by
 have I:=zHj (sh:=sh) hmo S;refine⟨⟨lst (mst sh mo sm M S) M,zEx I M (bi _),fun i j=> ?_,zES _ _⟩,fun L f g=>zJd hmo hsh I f g⟩;obtain⟨x,_,o⟩:=zFH.1 j;exact(I.inv.ok x i o).1
end
end MB
end Go.Proofs.YtejmkibjpaoahaaGreatDoor.Mo
namespace Go.Proofs.YtejmkibjpaoahaaGreatDoor.Mo
namespace MB
open Classical in
theorem zEU {sh mo:Nat->Nat}{L X Y:List Nat}(hL:free sh mo L)(h:∀i,i∈L->sh i∈X\/mo i∈Y):L.length<=X.length+Y.length:=by
 have u:=zD1 (l:=L.map fun i=>if sh i∈X then 2*sh i else 2*mo i+1) (m:=X.map (fun s=>2*s)++Y.map (fun m=>2*m+1)) (zE6 (zFX hL) fun i k p A r j=>by
  have v:=zIM hL p A r;by_cases f:sh i∈X<;>by_cases g:sh k∈X
  .rw[if_pos f,if_pos g]at j;exact v.1 (by omega)
  .rw[if_pos f,if_neg g]at j;omega
  .rw[if_neg f,if_pos g]at j;omega
  .rw[if_neg f,if_neg g]at j;exact v.2 (by omega)) (fun x B=>by
  obtain⟨i,p,rfl⟩:=bz.1 B;by_cases f:sh i∈X
  .rw[if_pos f];exact fo _ (bz.2 ⟨_,f,rfl⟩)
  .rw[if_neg f];rcases h i p with o|o
   .exact absurd o f
   .exact List.mem_append_right _ (bz.2 ⟨_,o,rfl⟩))
 simpa using u
inductive RS (sh mo:Nat->Nat)(n M:Nat)(t:St):Nat->Prop
 |base (s:Nat):served sh M t s=0->RS sh mo n M t s
 |step (i w:Nat):RS sh mo n M t (sh i)->i<n->t.by_ (mo i)=some w->RS sh mo n M t (sh w)
structure Alt (sh mo:Nat->Nat)(n M S:Nat)(t:St)(X Y:List Nat):Prop where
 xn:X.Nodup
 yn:Y.Nodup
 xs:∀s,s∈X<->s<S/\RS sh mo n M t s
 ys:∀m,m∈Y<->∃i,i<n/\RS sh mo n M t (sh i)/\mo i=m
variable {sh mo:Nat->Nat}{n M S:Nat}{t:St}{X Y:List Nat}
theorem RS.dead {Ds Dm:Nat->Prop}(hc:Closed sh mo (bn n) t Ds Dm)(hd:∀s,s<S->served sh M t s=1\/Ds s)(hsh:∀i,i<n->sh i<S)(I:Inv mo (bn n) t){s:Nat}(h:RS sh mo n M t s)(hs:s<S):Ds s:=by
 induction h with
 |base s h0=>
  rcases hd s hs with f|f
  .omega
  .exact f
 |step i w _ hi hb ih=>
  obtain⟨j,g,o⟩:=hc.m _ (hc.s i (aX.2 hi) (ih (hsh i hi)));rw[hb]at g;cases g;exact o
theorem Alt.has (A:Alt sh mo n M S t X Y)(I:MInv sh mo (bn n) M S t)(hsh:∀i,i<n->sh i<S){m:Nat}(hm:m∈Y):∃w,t.by_ m=some w/\w<n/\mo w=m/\sh w∈X:=by
 obtain⟨i,j,p,rfl⟩:=(A.ys m).1 hm;obtain⟨E,C,g,B⟩:=I.dead;have r:=p.dead g B hsh I.inv (hsh i j);obtain⟨w,o,_⟩:=g.m _ (g.s i (aX.2 j) r);obtain⟨u,v⟩:=I.inv.ok _ _ o;have f:=aX.1 u;exact⟨w,o,f,v,(A.xs _).2 ⟨hsh w f,.step i w p j o⟩⟩
theorem zJn {m w:Nat}(hm:m<M)(h:t.by_ m=some w):1<=served sh M t (sh w):=by
 unfold served;have f:=zIG (P:=zEQ sh t (sh w)) (Q:=fun x=>if x=m then false else zEQ sh t (sh w) x) hm (fun x g=>by rw[if_neg g]);simp only[if_true,kz,if_false,Nat.add_zero]at f;rw[if_pos (zDe.2 ⟨w,h,rfl⟩)]at f;omega
theorem Alt.covers (A:Alt sh mo n M S t X Y)(hsh:∀i,i<n->sh i<S){i:Nat}(hi:i<n):sh i∈(bn S).filter (fun s=> !X.contains s)\/mo i∈Y:=by
 by_cases h:sh i∈X
 .exact .inr ((A.ys _).2 ⟨i,hi,((A.xs _).1 h).2,rfl⟩)
 .exact .inl (bR.2 ⟨aX.2 (hsh i hi),by simpa using h⟩)
theorem Alt.size (A:Alt sh mo n M S t X Y)(I:MInv sh mo (bn n) M S t)(hsh:∀i,i<n->sh i<S)(hmo:∀i,i<n->mo i<M):((bn S).filter (fun s=> !X.contains s)).length+Y.length=MB.size M t:=by
 apply Li
 .have T:∀s,∃m,s<S->s∉X->m<M/\zEQ sh t s m=true:=fun s=>by
   by_cases h:s<S/\s∉X
   .have p:1<=served sh M t s:=zO.2 fun e=>h.2 ((A.xs s).2 ⟨h.1,.base s e⟩)
    obtain⟨m,f,r⟩:=zG3 p;exact⟨m,fun _ _=>⟨f,r⟩⟩
   .exact⟨0,fun f r=>absurd ⟨f,r⟩ h⟩
  obtain⟨g,C⟩:=zm T;have B:∀s,s∈(bn S).filter (fun s=> !X.contains s)->s<S/\s∉X:=fun s u=>by
   obtain⟨p,f⟩:=bR.1 u;exact⟨aX.1 p,by simpa using f⟩
  have J:(((bn S).filter (fun s=> !X.contains s)).map g++Y).Nodup:=by
   refine mD.2 ⟨zE6 (ko _ pq) fun i k j hk N he=> ?_,A.yn,fun a W b Z e=> ?_⟩
   .obtain⟨i1,i2⟩:=B i j;obtain⟨k1,k2⟩:=B k hk;obtain⟨a,o,H⟩:=zDe.1 (C i i1 i2).2;obtain⟨b,U,V⟩:=zDe.1 (C k k1 k2).2;rw[he,U]at o;cases o;exact N (H.symm.trans V)
   .obtain⟨s,u,rfl⟩:=bz.1 W;obtain⟨O,E⟩:=B s u;obtain⟨a,o,H⟩:=zDe.1 (C s O E).2;obtain⟨w,F,_,_,Q⟩:=A.has I hsh Z;rw[<-e,o]at F;cases F;exact E (H▸Q)
  have v:=zD1 (m:=(bn M).filter fun m=>(t.by_ m).isSome) J (fun m hm=>by
   rcases cz.1 hm with h|h
   .obtain⟨s,u,rfl⟩:=bz.1 h;obtain⟨O,E⟩:=B s u;obtain⟨f,r⟩:=C s O E;obtain⟨a,o,_⟩:=zDe.1 r;exact bR.2 ⟨aX.2 f,by rw[o];rfl⟩
   .obtain⟨w,F,Q,w3,_⟩:=A.has I hsh h;exact bR.2 ⟨aX.2 (w3▸hmo w Q),by rw[F];rfl⟩)
  rw[bQ,ek]at v;exact v
 .have T:=zMV (sh:=sh) (mo:=mo) (sm:=bn n) (M:=M) (S:=S) (fun i j=>hmo i (aX.1 j)) (fun i j=>hsh i (aX.1 j));have p:=zEU (X:=(bn S).filter (fun s=> !X.contains s)) (Y:=Y) (zEx I M (bi _)) (fun i j=>A.covers hsh (by
   obtain⟨x,_,hx⟩:=zFH.1 j;exact aX.1 (I.inv.ok x i hx).1))
  rw[zES]at p;exact p
end MB
end Go.Proofs.YtejmkibjpaoahaaGreatDoor.Mo
namespace Go.Proofs.YtejmkibjpaoahaaGreatDoor.Mo
namespace MB
def load (f:Nat->Nat)(n s:Nat):Nat:=cnt (fun i=>f i==s) n
def wnt (sh:Nat->Nat)(n S:Nat):List Nat:=(bn S).filter fun s=>decide (0<load sh n s)
variable {sh mo:Nat->Nat}{n M S:Nat}{t:St}{X Y:List Nat}
section
variable {own:List Nat}{s:Nat}
theorem zER {f:Nat->Nat}{i:Nat}(hi:i<n):0<load f n (f i):=by
 induction n with
 |zero=>omega
 |succ n ih=>
  unfold load;rw[zDJ];by_cases e:i=n
  .subst e;simp
  .have:=ih (by omega);unfold load at this;omega
theorem zFI:s∈wnt sh n S<->s<S/\0<load sh n s:=by
 rw[wnt,bR,aX,decide_eq_true_eq]
theorem zHx:(wnt sh n S).Nodup:=ko _ pq
theorem zJI (I:Inv mo (bn n) t)(h:served sh M t s≠0):0<load sh n s:=by
 obtain⟨m,_,f⟩:=zG3 (P:=zEQ sh t s) (n:=M) (zO.2 h);obtain⟨i,g,rfl⟩:=zDe.1 f;exact zER (aX.1 (I.ok m i g).1)
theorem same_length {l k:List Nat}(hl:l.Nodup)(hk:k.Nodup)(h:∀x,x∈l<->x∈k):l.length=k.length:=Li (zD1 hl fun x f=>(h x).1 f) (zD1 hk fun x f=>(h x).2 f)
def outs (S:Nat)(X:List Nat):List Nat:=(bn S).filter fun s=> !X.contains s
theorem zIz:s∈outs S X<->s<S/\s∉X:=by
 rw[outs,bR,aX];simp
theorem zJi:(outs S X).Nodup:=ko _ pq
theorem Alt.wants (A:Alt sh mo n M S t X Y)(I:MInv sh mo (bn n) M S t):(X.filter fun s=>decide (0<load sh n s)).length+(outs S X).length=(wnt sh n S).length:=by
 rw[<-bQ];refine same_length (mD.2 ⟨ko _ A.xn,zJi,fun a j b o e=>(zIz.1 o).2 (e▸(bR.1 j).1)⟩) zHx fun s=> ?_
 rw[cz,bR,zIz,zFI,decide_eq_true_eq];constructor
 .rintro(⟨f,g⟩|⟨f,g⟩)
  .exact⟨((A.xs s).1 f).1,g⟩
  .exact⟨f,zJI I.inv fun e=>g ((A.xs s).2 ⟨f,.base s e⟩)⟩
 .rintro⟨f,g⟩;by_cases h:s∈X
  .exact .inl ⟨h,g⟩
  .exact .inr ⟨f,h⟩
def wtd (sh mo:Nat->Nat)(n M:Nat)(own:List Nat):List Nat:=(bn M).filter fun m=>(bn n).any fun i=>mo i==m&&own.contains (sh i)
theorem zKM {m:Nat}:m∈wtd sh mo n M own<->m<M/\∃i,i<n/\mo i=m/\sh i∈own:=by
 rw[wtd,bR,aX,lw];simp only[aX,aY,beq_iff_eq,fe,decide_eq_true_eq]
theorem zLW:(wtd sh mo n M own).Nodup:=ko _ pq
theorem Alt.wtd (A:Alt sh mo n M S t X Y)(hsh:∀i,i<n->sh i<S)(hmo:∀i,i<n->mo i<M):(MB.wtd sh mo n M (X.filter fun s=>decide (0<load sh n s))).length=Y.length:=by
 refine same_length zLW A.yn fun m=> ?_
 rw[zKM,A.ys];constructor
 .rintro⟨_,i,f,g,j⟩;exact⟨i,f,((A.xs _).1 (bR.1 j).1).2,g⟩
 .rintro⟨i,f,g,rfl⟩;exact⟨hmo i f,i,f,rfl,bR.2 ⟨(A.xs _).2 ⟨hsh i f,g⟩,by rw[decide_eq_true_eq];exact zER f⟩⟩
theorem hall {L:List Nat}(hL:free sh mo L)(hn:∀i,i∈L->i<n)(hsh:∀i,i<n->sh i<S)(hmo:∀i,i<n->mo i<M)(ho:own.Nodup)(hw:∀s,s∈own->s<S/\0<load sh n s):L.length+own.length<=(wnt sh n S).length+(MB.wtd sh mo n M own).length:=by
 have r:=zEU (X:=(wnt sh n S).filter fun s=> !own.contains s) (Y:=MB.wtd sh mo n M own) hL fun i f=>by
  by_cases h:sh i∈own
  .exact .inr (zKM.2 ⟨hmo i (hn i f),i,hn i f,rfl,h⟩)
  .exact .inl (bR.2 ⟨zFI.2 ⟨hsh i (hn i f),zER (hn i f)⟩,by simpa using h⟩)
 have g:=zD1 (l:=(wnt sh n S).filter (fun s=> !own.contains s)++own) (m:=wnt sh n S) (mD.2 ⟨ko _ zHx,ho,fun a j b o e=>by
  have:=(bR.1 j).2;simp only[fe,fw,decide_eq_false_iff_not]at this;exact this (e▸o)⟩) (fun s p=>by
  rcases cz.1 p with h|h
  .exact(bR.1 h).1
  .exact zFI.2 (hw s h))
 rw[bQ]at g;omega
theorem Alt.none (A:Alt sh mo n M S t X Y)(I:MInv sh mo (bn n) M S t)(hsh:∀i,i<n->sh i<S)(h:MB.size M t=(wnt sh n S).length):X.filter (fun s=>decide (0<load sh n s))=[]:=by
 have j:∀s,s<S->0<load sh n s->served sh M t s≠0:=fun s p H u=>by
  have f:=zEU (X:=(wnt sh n S).erase s) (Y:=[]) (zEx I M (bi _)) fun i g=>by
   obtain⟨x,r,C⟩:=zFH.1 g;have B:=aX.1 (I.inv.ok x i C).1;have o:sh i≠s:=fun e=>by
    have:=zJn (sh:=sh) r C;rw[e]at this;omega
   exact .inl ((sS o).2 (zFI.2 ⟨hsh i B,zER B⟩))
  have v:s∈wnt sh n S:=zFI.2 ⟨p,H⟩;rw[zES,rf v]at f;have:=rV v;simp only[bL]at f;omega
 have all:∀s,RS sh mo n M t s->s<S->served sh M t s=0:=fun s J=>by
  induction J with
  |base s u=>exact fun _=>u
  |step i w _ g _ ih=>exact fun _=>absurd (ih (hsh i g)) (j _ (hsh i g) (zER g))
 rw[List.filter_eq_nil_iff];intro s p F;obtain⟨f,E⟩:=(A.xs s).1 p;exact j s f (by simpa using F) (all s E f)
end
end MB
end Go.Proofs.YtejmkibjpaoahaaGreatDoor.Mo
namespace Go.Proofs.YtejmkibjpaoahaaGreatDoor.Mo
namespace MB
variable {sh mo:Nat->Nat}{n:Nat}
def clash (sh mo:Nat->Nat)(i k:Nat):Bool:=sh i==sh k||mo i==mo k
theorem zE0 {i k:Nat}:clash sh mo i k=false<->sh i≠sh k/\mo i≠mo k:=by
 unfold clash;rw[Bool.or_eq_false_iff,beq_eq_false_iff_ne,beq_eq_false_iff_ne]
theorem zFV (i k:Nat):clash sh mo i k=clash sh mo k i:=by
 unfold clash;rw[Md (a:=sh i),Md (a:=mo i)]
def rest (sh mo:Nat->Nat)(l:List Nat)(i:Nat):List Nat:=l.filter fun k=> !(decide (k<=i)||clash sh mo i k)
def pick (sh mo:Nat->Nat)(mxv:List Nat->Nat):Nat->List Nat->List Nat
 |0,_=>[]
 |f+1,l=>match l.find? fun i=>1+mxv (rest sh mo l i)==mxv l with
  |none=>[]
  |some i=>i::pick sh mo mxv f (rest sh mo l i)
section
variable {mxv:List Nat->Nat}(hmx:∀l:List Nat,(∀i,i∈l->i<n)->Mx sh mo l (mxv l))
section
variable {i:Nat}{l:List Nat}
include hmx
end
end
end MB
end Go.Proofs.YtejmkibjpaoahaaGreatDoor.Mo
namespace Go.Proofs.YtejmkibjpaoahaaGreatDoor.Mo
namespace MB
variable {sh mo:Nat->Nat}{n D:Nat}
section
variable {l:List Nat}
def fit (sh mo:Nat->Nat)(bg:List Nat)(d:Nat):Bool:=(bn bg.length).all fun i=> !(bg.getD i 0==d&&clash sh mo i bg.length)
def go (sh mo:Nat->Nat)(D:Nat):Nat->List Nat->Option (List Nat)
 |0,bg=>some bg
 |k+1,bg=>(bn D).findSome? fun d=>if fit sh mo bg d then go sh mo D k (bg++[d])else none
def zEG (sh mo:Nat->Nat)(l:List Nat):Prop:=right sh mo (fun i=>l.getD i 0) l.length
theorem zIH {bg:List Nat}{d:Nat}:fit sh mo bg d=true<->∀i,i<bg.length->bg.getD i 0=d->sh i≠sh bg.length/\mo i≠mo bg.length:=by
 unfold fit;rw[eB];constructor
 .intro h i g f;have:=h i (aX.2 g);rw[f]at this;simp only[beq_self_eq_true,Bool.true_and,fw]at this;exact zE0.1 this
 .intro h i g;by_cases f:bg.getD i 0=d
  .rw[f,zE0.2 (h i (aX.1 g) f)];simp
  .rw[(beq_eq_false_iff_ne).2 f];rfl
theorem zHa (bg:List Nat)(d i:Nat):(bg++[d]).getD i 0=if i=bg.length then d else bg.getD i 0:=by
 by_cases h:i<bg.length
 .rw[if_neg (by omega),aN,aN,eP h]
 .by_cases e:i=bg.length
  .subst e;rw[if_pos rfl,aN,lN (bi _)];simp
  .rw[if_neg e,aN,aN,ic (by simp;omega),ic (by omega)]
theorem zHQ {bg:List Nat}{d:Nat}(R:zEG sh mo bg)(h:fit sh mo bg d=true):zEG sh mo (bg++[d]):=by
 have h:=zIH.1 h;unfold zEG;rw[bQ];have:=zHq (sh:=sh) (mo:=mo) (c:=fun i=>bg.getD i 0) (n:=bg.length) (a:=d) R (fun i g r f=>(h i g f).1 r) (fun i g p f=>(h i g f).2 p);intro i k g o j f;refine this i k (by simpa using g) (by simpa using o) j ?_;simp only[zHa]at f;exact f
def dif (l:List Nat):Nat:=cnt (fun i=> !(l.take i).contains (l.getD i 0)) l.length
theorem zLQ {k:Nat}(h:k<l.length):l.take (k+1)=l.take k++[l.getD k 0]:=by
 rw[gY,aN,aF h];rfl
theorem zIi (l:List Nat):∀k,k<=l.length->∃u:List Nat,u.Nodup/\(∀x,x∈u<->x∈l.take k)/\u.length=cnt (fun i=> !(l.take i).contains (l.getD i 0)) k
 |0,_=>⟨[],BB,fun x=>by simp,rfl⟩
 |k+1,h=>by
  obtain⟨u,j,g,o⟩:=zIi l k (by omega);rw[zDJ,zLQ (by omega)];by_cases f:l.getD k 0∈l.take k
  .refine⟨u,j,fun x=> ?_,?_⟩
   .rw[cz,bv,g];exact⟨.inl,fun h=>h.elim id fun e=>e▸f⟩
   .rw[if_neg (by simpa using f),o];rfl
  .refine⟨l.getD k 0::u,mJ.2 ⟨fun h=>f ((g _).1 h),j⟩,fun x=> ?_,?_⟩
   .rw[cz,bv,cK,g];exact⟨fun h=>h.elim .inr .inl,fun h=>h.elim .inr .inl⟩
   .rw[if_pos (by simpa using f),aZ,o]
theorem zJ6 (l:List Nat):∃u:List Nat,u.Nodup/\(∀x,x∈u<->x∈l)/\u.length=dif l:=by
 obtain⟨u,g,f,j⟩:=zIi l l.length (bi _);rw[bI (bi _)]at f;exact⟨u,g,f,j⟩
structure Great (sh mo:Nat->Nat)(n D:Nat):Prop where
 sle:∀s,load sh n s<=D
 mle:∀m,load mo n m<=D
 is:D=0\/(∃s,load sh n s=D)\/∃m,load mo n m=D
end
end MB
end Go.Proofs.YtejmkibjpaoahaaGreatDoor.Mo
namespace Go.Proofs.YtejmkibjpaoahaaGreatDoor
section wants
variable (sh mo G:Nat->Nat)(S:Nat)
def wen (i:Nat):En:=⟨1+((G i:Nat):Int),((sh i:Nat):Int),(S:Int)+((mo i:Nat):Int),1⟩
def wbk:Nat->List En
 |0=>[]
 |i+1=>ins (wbk i) (wen sh mo G S i)
def wls (n:Nat):List En:=(bn n).map (wen sh mo G S)
end wants
variable {sh mo G:Nat->Nat}{S M n:Nat}
theorem zFD (i:Nat):wls sh mo G S (i+1)=wls sh mo G S i++[wen sh mo G S i]:=by simp[wls,rA]
theorem zEI:∀i,(wbk sh mo G S i).length=i
 |0=>rfl
 |i+1=>by rw[wbk,zEE,zEI i]
theorem zKV {x:En}:∀{i:Nat},x∈wbk sh mo G S i->∃j,j<i/\x=wen sh mo G S j
 |0,h=>by cases h
 |i+1,h=>by
  rw[wbk,zFc]at h;rcases h with rfl|h
  .exact⟨i,by omega,rfl⟩
  .obtain⟨j,f,e⟩:=zKV h;exact⟨j,by omega,e⟩
theorem zMr {i:Nat}(hs:sh i<S)(hm:mo i<M)(hg:G i<14):okE ((S+M:Nat):Int) (wen sh mo G S i)/\(wen sh mo G S i).f≠(wen sh mo G S i).t/\0<(wen sh mo G S i).d:=by
 unfold okE wen;simp only[];omega
theorem zNs (h1:1<=S)(h2:1<=M)(h3:S+M<=8)(hn:n<=14)(hs:∀j,j<n->sh j<S)(hm:∀j,j<n->mo j<M)(hg:∀j,j<n->G j<14):∀i,i<=n->chk ((S+M:Nat):Int) 0 (wbk sh mo G S i)=0/\(i<n->pst ((S+M:Nat):Int) 0 (wbk sh mo G S i) (wen sh mo G S i)=0):=by
 have g:∀i,i<n->chk ((S+M:Nat):Int) 0 (wbk sh mo G S i)=0->pst ((S+M:Nat):Int) 0 (wbk sh mo G S i) (wen sh mo G S i)=0:=fun i f o=>by
  obtain⟨u,v,A⟩:=zMr (hs i f) (hm i f) (hg i f);exact zKQ.2 ⟨o,u,v,A,by rw[zEI];omega⟩
 intro i;induction i with
 |zero=>
  intro _;have r:chk ((S+M:Nat):Int) 0 (wbk sh mo G S 0)=0:=zIF.2 ⟨by omega,by simp[wbk],by omega,fun e p=>(by cases p),lX,fun e p=>(by cases p)⟩;exact⟨r,fun f=>g 0 f r⟩
 |succ i ih=>
  intro f;have o:=zNF ((ih (by omega)).2 (by omega));exact⟨o,fun h=>g (i+1) h o⟩
theorem zGb (day a:Int):∀i,zDI (wbk sh mo G S i) day a=zDI (wls sh mo G S i) day a
 |0=>rfl
 |i+1=>by rw[wbk,zL6,zFD,zD0,zEp,zGb day a i]
theorem zMq (k:Nat)(day:Int)(i:Nat):zCd k (wbk sh mo G S i) day=zCd k (wls sh mo G S i) day:=by
 unfold zCd;exact List.map_congr_left fun a _=>zGb day a i
theorem zJS (a:Nat)(ha:a<S):∀n,(∀j,j<n->G j<14)->zDI (wls sh mo G S n) 14 (a:Int)= -((Mo.MB.load sh n a:Nat):Int)
 |0,_=>by simp[wls,zDI,Mo.MB.load,Mo.MB.cnt]
 |n+1,hg=>by
  have p:=zJS a ha n fun j r=>hg j (by omega)
  have g:=hg n (by omega);rw[zFD,zD0,zEp,p];unfold Mo.MB.load;rw[Mo.MB.zDJ];unfold amt wen;simp only[];rw[if_pos (by omega)];by_cases h:sh n=a
  .have o:((sh n:Nat):Int)=(a:Int):=by omega
   have f:¬((S:Int)+((mo n:Nat):Int)=(a:Int)):=by omega
   simp[h,f]
   try omega
  .have o:¬(((sh n:Nat):Int)=(a:Int)):=by omega
   have f:¬((S:Int)+((mo n:Nat):Int)=(a:Int)):=by omega
   simp[h,o,f]
theorem zHw (b:Nat):∀n,(∀j,j<n->G j<14)->(∀j,j<n->sh j<S)->zDI (wls sh mo G S n) 14 ((S+b:Nat):Int)=((Mo.MB.load mo n b:Nat):Int)
 |0,_,_=>by simp[wls,zDI,Mo.MB.load,Mo.MB.cnt]
 |n+1,hg,hs=>by
  have r:=zHw b n (fun j p=>hg j (by omega)) fun j p=>hs j (by omega)
  have g:=hg n (by omega);have s:=hs n (by omega);rw[zFD,zD0,zEp,r];unfold Mo.MB.load;rw[Mo.MB.zDJ];unfold amt wen;simp only[];rw[if_pos (by omega)];have o:¬(((sh n:Nat):Int)=((S+b:Nat):Int)):=by omega
  by_cases h:mo n=b
  .have f:(S:Int)+((mo n:Nat):Int)=((S+b:Nat):Int):=by omega
   simp[h,o,f]
   try omega
  .have f:¬((S:Int)+((mo n:Nat):Int)=((S+b:Nat):Int)):=by omega
   simp[h,o,f]
   try omega
def zNq (who:Int)(x y:En):Prop:=x.d=y.d/\(x.f=who\/x.t=who)/\(y.f=who\/y.t=who)
theorem zLS {who:Int}{x y:En}(h:zNq who x y):zNq who y x:=⟨h.1.symm,h.2.2,h.2.1⟩
theorem zIu (e:En):∀es:List En,(ins es e).Perm (e::es)
 |[]=>by rw[zEd]
 |x::xs=>by
  rw[zDm];split
  .exact List.Perm.refl _
  .exact((zIu e xs).cons x).trans (List.Perm.swap _ _ _)
theorem zKW (who:Int)(hs:∀j,j<n->sh j<S)(hr:Mo.MB.right sh mo G n):∀i,i<=n->(wbk sh mo G S i).Pairwise fun x y=>¬zNq who x y
 |0,_=>lX
 |i+1,hi=>by
  have r:=zKW who hs hr i (by omega);rw[wbk];refine((zIu _ _).pairwise_iff fun{x y} h=>fun t=>h (zLS t)).2 (ql.2 ⟨fun y p=> ?_,r⟩);obtain⟨j,u,rfl⟩:=zKV p;rintro⟨o,f,g⟩;have B:=hs i (by omega);have C:=hs j (by omega);unfold wen at o f g;simp only[]at o f g;obtain⟨v,A⟩:=hr i j (by omega) (by omega) (by omega) (by omega);omega
theorem zM1 {who day:Int}{es:List En}(H:es.Pairwise fun x y=>¬zNq who x y):(zN8 who day day es es.length).length<=1:=by
 unfold zN8 zsN zEF;rw[ek,FL];have p:((bn es.length).filter fun a=>zFW es day day a&&touch who es a).Pairwise (·<·):=ko _ List.pairwise_lt_range;have o:∀x∈(bn es.length).filter fun a=>zFW es day day a&&touch who es a,zFW es day day x=true/\touch who es x=true:=fun x u=>by
  have:=(bR.1 u).2;rwa[aY]at this
 generalize ((bn es.length).filter fun a=>zFW es day day a&&touch who es a)=l at p o ⊢
 match l,p,o with
 |[],_,_=>simp
 |[_],_,_=>simp
 |x::y::l,p,o=>
  exfalso;have v:x<y:=(ql.1 p).1 y (by simp);obtain⟨A,N⟩:=o x (by simp);obtain⟨B,O⟩:=o y (by simp);have g:∀{i:Nat},zFW es day day i=true->touch who es i=true->∃e,es[i]? =some e/\e.d=day/\(e.f=who\/e.t=who):=fun{i} j r=>by
   unfold zFW at j;unfold touch at r;cases he:es[i]? with
   |none=>rw[he]at j;cases j
   |some e=>
    rw[he]at j r;simp at j r;exact⟨e,rfl,by omega,r⟩
  obtain⟨Q,E,U,I⟩:=g A N;obtain⟨T,F,V,J⟩:=g B O;obtain⟨u,rfl⟩:=kM.1 E;obtain⟨C,rfl⟩:=kM.1 F;exact qM.1 H x y u C v ⟨by omega,I,J⟩
end Go.Proofs.YtejmkibjpaoahaaGreatDoor
namespace Go.Eng
open Go
section
variable {b c:Nat}{h h' h'':Heap}
structure Chg (h h':Heap)(b:Nat):Prop where
 size:h.size<=h'.size
 old:∀c,c<h.size->c≠b->h'[c]? =h[c]?
theorem Chg.refl (h:Heap)(b:Nat):Chg h h b:=⟨bi _,fun _ _ _=>rfl⟩
theorem Chg.Sg (x:Ext h h')(b:Nat):Chg h h' b:=⟨x.size,fun c f _=>x.old c f⟩
theorem Chg.trans (x:Chg h h' b)(y:Chg h' h'' b):Chg h h'' b:=⟨mK x.size y.size,fun c g f=>(y.old c (rX g x.size) f).trans (x.old c g f)⟩
theorem Chg.get {o:Obj}(x:Chg h h' b)(hc:h[c]? =some o)(hne:c≠b):h'[c]? =some o:=(x.old c (bA hc) hne).trans hc
theorem Chg.upd (x:Chg h h' b)(u:Upd h' h'' b):Chg h h'' b:=⟨by rw[u.size];exact x.size,fun c g f=>(u.old c f).trans (x.old c g f)⟩
theorem Chg.zBk (x:Chg h h' b)(u:Upd h' h'' c)(hc:h.size<=c):Chg h h'' b:=⟨by rw[u.size];exact x.size,fun i g f=>(u.old i (by omega)).trans (x.old i g f)⟩
theorem Chg.ext (x:Chg h h' b)(y:Ext h' h''):Chg h h'' b:=x.trans (.Sg y b)
theorem Chg.push (x:Chg h h' b)(o:Obj):Chg h (h'.push o) b:=x.ext ((Ext.refl h').push o)
theorem Chg.fresh {h0:Heap}(x:Ext h0 h)(c:Chg h h' b)(hb:h0.size<=b):Ext h0 h':=⟨mK x.size c.size,fun i f=>(c.old i (rX f x.size) (by omega)).trans (x.old i f)⟩
theorem Row.chg {a:Option Addr}{cs:List Value}{ents:Array MapEntry}(H:Row h a cs)(hb:h[b]? =some (.map ents c))(x:Chg h h' b):Row h' a cs:=by
 rcases H with H|⟨g,o,f,p,r,u,j,v,A⟩
 .exact .inl H
 .refine .inr ⟨g,o,f,p,r,u,x.get j ?_,v,A⟩;rintro rfl;rw[hb]at j;cases j
theorem eu.chg {n:Nat}{a:Option Addr}{xs:List Int}{ents:Array MapEntry}(H:eu h a n xs)(hb:h[b]? =some (.map ents c))(x:Chg h h' b):eu h' a n xs:=⟨H.len,H.row.chg hb x⟩
end
section maps
variable {α:Type}[DecidableEq α]
theorem UD {a a':α}{v:Value}{c:Nat}:∀{es:List (α×Value×Nat)},fZ a' (fF a v c es)=if a'=a then some v else fZ a' es
 |[]=>by simp only[fF,fZ]
 |x::es=>by
  have g:=UD (a:=a) (a':=a') (v:=v) (c:=c) (es:=es);by_cases f:a=x.1
  .simp only[fF,f,if_true,fZ];by_cases h:a'=x.1<;>simp[h]
  .simp only[fF,f,if_false,fZ,g];by_cases h:a'=x.1
   .have:¬a'=a:=fun e=>f (by rw[<-e,h])
    simp[h,this];intro e;exact absurd e.symm f
   .simp[h]
theorem Hw {a:α}{v:Value}{c:Nat}:∀{es:List (α×Value×Nat)},(fF a v c es).map (·.1)=if a∈es.map (·.1)then es.map (·.1)else es.map (·.1)++[a]
 |[]=>by simp[fF]
 |x::es=>by
  have g:=Hw (a:=a) (v:=v) (c:=c) (es:=es);by_cases f:a=x.1
  .simp[fF,f]
  .simp only[fF,f,if_false,iq,g,cK,false_or];split<;>simp
theorem Zg {a:α}{v:Value}{c:Nat}{es:List (α×Value×Nat)}(h:(es.map (·.1)).Nodup):((fF a v c es).map (·.1)).Nodup:=by
 rw[Hw];split
 .exact h
 .rename_i g;rw[mD];refine⟨h,by simp,?_⟩;intro x j y f;simp at f;subst f;exact fun e=>g (by rw[<-e];exact j)
theorem HV {a:α}:∀{es:List (α×Value×Nat)},(es.map (·.1)).Nodup->∀{x},x∈es->x.1=a->fZ a es=some x.2.1
 |[],_,x,h,_=>by cases h
 |y::es,hn,x,h,he=>by
  rw[iq,mJ]at hn;rcases cK.1 h with rfl|h
  .simp[fZ,he]
  .have:¬a=y.1:=fun e=>hn.1 (by rw[<-e,<-he];exact bz.2 ⟨x,h,rfl⟩)
   simp only[fZ,this,if_false];exact HV hn.2 h he
theorem Tt {a:α}{v:Value}:∀{es:List (α×Value×Nat)},fZ a es=some v->∃c,(a,v,c)∈es
 |[],h=>by cases h
 |x::es,h=>by
  simp only[fZ]at h;split at h
  .rename_i g;cases h;exact⟨x.2.2,by rw[g];simp⟩
  .obtain⟨c,f⟩:=Tt h;exact⟨c,by simp[f]⟩
end maps
def XP (r b:Nat)(h:Heap):Nat:=match h[r]?,h[b]? with
 |some (.mapIter _ _ seen _),some (.map es _)=>(es.toList.filter fun e=> !seen.contains e.born).length
 |_,_=>0
theorem zAW {α:Type}{kv:α->Value}{r b since c0 c:Nat}{seen:Array Nat}{h:Heap}{es:List (α×Value×Nat)}(M:jU kv h b es c)(hr:h[r]? =some (.mapIter (some b) since seen c0)):XP r b h=(es.filter fun x=> !seen.contains x.2.2).length:=by
 rw[XP,hr,M.obj];simp only[dn,List.filter_map,ek];rfl
theorem filter_lt {α:Type}{p q:α->Bool}:∀{l:List α},(∀x∈l,q x=true->p x=true)->∀{e:α},e∈l->p e=true->q e=false->(l.filter q).length<(l.filter p).length
 |[],_,e,h,_,_=>by cases h
 |y::l,hs,e,h,hp,hq=>by
  have u:(l.filter q).length<=(l.filter p).length:=by
   have:l.filter q=(l.filter p).filter q:=by
    rw[FL];apply List.filter_congr;intro x o;by_cases g:q x=true
    .simp[g,hs x (by simp[o]) g]
    .simp[g]
   rw[this];exact qf _ _
  rcases cK.1 h with rfl|h
  .simp only[zA,hp,hq,if_true,aZ];simp;omega
  .have r:=filter_lt (p:=p) (q:=q) (fun x o=>hs x (by simp[o])) h hp hq;simp only[zA];by_cases f:q y=true
   .simp[f,hs y (by simp) f,r]
   .by_cases j:p y=true
    .simp[f,j];omega
    .simp[f,j,r]
theorem zBU {α:Type}{es:List (α×Value×Nat)}(hb:(es.map (·.2.2)).Pairwise (·<·)){x y:α×Value×Nat}(hx:x∈es)(hy:y∈es)(he:x.2.2=y.2.2):x=y:=by
 induction es with
 |nil=>cases hx
 |cons z es ih=>
  rw[iq,ql]at hb;rcases cK.1 hx with g|g
  .rcases cK.1 hy with f|f
   .rw[g,f]
   .have:=hb.1 _ (bz.2 ⟨y,f,rfl⟩);rw[<-g]at this;omega
  .rcases cK.1 hy with f|f
   .have:=hb.1 _ (bz.2 ⟨x,g,rfl⟩);rw[<-f]at this;omega
   .exact ih hb.2 g f
end Go.Eng
namespace Go.Proofs.YtejmkibjpaoahaaGreatDoor.Mo
namespace MB
variable {sh mo c:Nat->Nat}{n w d:Nat}
section
variable {e i k x:Nat}
inductive Ch (sh mo c:Nat->Nat)(n w d:Nat):Nat->Prop
 |base:Ch sh mo c n w d w
 |step (i k:Nat):Ch sh mo c n w d i->k<n->clash sh mo i k=true->(c k=c w\/c k=d)->Ch sh mo c n w d k
theorem Ch.col (h:Ch sh mo c n w d i):c i=c w\/c i=d:=by
 cases h with
 |base=>exact .inl rfl
 |step _ _ _ _ _ h=>exact h
theorem Ch.lt (hw:w<n)(h:Ch sh mo c n w d i):i<n:=by
 cases h with
 |base=>exact hw
 |step _ _ _ h _ _=>exact h
def oth (c:Nat->Nat)(w d x:Nat):Nat:=if x=d then c w else d
theorem zIV (hne:c w≠d)(h:x=c w\/x=d):oth c w d (oth c w d x)=x:=by
 have f:oth c w d (c w)=d:=if_neg hne;have g:oth c w d d=c w:=if_pos rfl;rcases h with h|h
 .rw[h,f,g]
 .rw[h,g,f]
open Classical in
noncomputable def swp (sh mo c:Nat->Nat)(n w d:Nat)(i:Nat):Nat:=if Ch sh mo c n w d i then oth c w d (c i)else c i
theorem zEh (h:Ch sh mo c n w d i):swp sh mo c n w d i=oth c w d (c i):=if_pos h
theorem zFL (h:¬Ch sh mo c n w d i):swp sh mo c n w d i=c i:=if_neg h
theorem Ch.trans (hk:Ch sh mo c n w d k)(hc:∀x,x=c k\/x=e->x=c w\/x=d)(h:Ch sh mo c n k e i):Ch sh mo c n w d i:=by
 induction h with
 |base=>exact hk
 |step i j _ hj hcl hcol ih=>exact .step i j ih hj hcl (hc _ hcol)
theorem Ch.back (hw:w<n)(h:Ch sh mo c n w d i)(hc:∀x,x=c w\/x=d->x=c k\/x=e)(hi:Ch sh mo c n k e i):Ch sh mo c n k e w:=by
 induction h with
 |base=>exact hi
 |step i j h1 hj hcl hcol ih=>
  refine ih (.step j i hi (h1.lt hw) (by rw[zFV];exact hcl) (hc _ h1.col))
theorem Ch.same (hw:w<n)(hk:Ch sh mo c n w d k)(hc:∀x,(x=c k\/x=e)<->(x=c w\/x=d))(i:Nat):Ch sh mo c n k e i<->Ch sh mo c n w d i:=
 ⟨fun h=>hk.trans (fun x=>(hc x).1) h,fun h=>Ch.trans (Ch.back hw hk (fun x=>(hc x).2) .base) (fun x=>(hc x).2) h⟩
theorem zM9 (hne:c w≠d)(h:c k=c w\/c k=d)(x:Nat):(x=c k\/x=oth c w d (c k))<->(x=c w\/x=d):=by
 unfold oth;rcases h with h|h
 .rw[h,if_neg hne]
 .rw[h,if_pos rfl];exact⟨Or.symm,Or.symm⟩
theorem Ch.swap (hw:w<n)(hne:c w≠d)(hk:Ch sh mo c n w d k):Ch sh mo (swp sh mo c n w d) n k (c k) i<->Ch sh mo c n w d i:=by
 have o:=zM9 hne hk.col;have g:∀i,Ch sh mo c n k (oth c w d (c k)) i<->Ch sh mo c n w d i:=Ch.same hw hk o;constructor
 .intro h;refine(g i).1 ?_;induction h with
  |base=>exact .base
  |step i j _ hj hcl hcol ih=>
   by_cases f:Ch sh mo c n w d j
   .exact(g j).2 f
   .rw[zFL f,zEh hk]at hcol;exact .step i j ih hj hcl hcol.symm
 .intro h;have h':=(g i).2 h;clear h;induction h' with
  |base=>exact .base
  |step i j hij hj hcl hcol ih=>
   have f:Ch sh mo c n w d j:=(g j).1 (.step i j hij hj hcl hcol);refine .step i j ih hj hcl ?_;rw[zEh f,zEh hk];rcases hcol with e|e
   .exact .inl (by rw[e])
   .exact .inr (by rw[e,zIV hne hk.col])
end
end MB
end Go.Proofs.YtejmkibjpaoahaaGreatDoor.Mo
namespace Go.Proofs.YtejmkibjpaoahaaGreatDoor.Mo
namespace MB
variable {sh mo c:Nat->Nat}{n M S w d q t:Nat}{out:List Nat}
section
variable {l:List Nat}
theorem zF9 {k:List Nat}{j:Nat}(h:j<l.length):(l++k).getD j 0=l.getD j 0:=by
 rw[aN,aN,eP h]
theorem zIl {j:Nat}(h:j<l.length):l.getD j 0∈l:=by
 rw[aN,aF h];exact cZ h
theorem zJe {x:Nat}(h:x∈l):∃j,j<l.length/\l.getD j 0=x:=by
 obtain⟨j,f,e⟩:=uE h;exact⟨j,f,by rw[aN,aF f];exact e⟩
structure Bf (sh mo c:Nat->Nat)(n w d:Nat)(out:List Nat)(q t:Nat):Prop where
 nd:out.Nodup
 lt:∀x,x∈out->x<n
 ch:∀x,x∈out->Ch sh mo c n w d x
 has:w∈out
 done:∀j,j<q->∀k,k<n->clash sh mo (out.getD j 0) k=true->(c k=c w\/c k=d)->k∈out
 now:∀k,k<t->clash sh mo (out.getD q 0) k=true->(c k=c w\/c k=d)->k∈out
theorem Bf.start (hw:w<n):Bf sh mo c n w d [w] 0 0:=⟨by simp,fun x f=>by rw[bv.1 f];exact hw,fun x f=>by rw[bv.1 f];exact .base,by simp,fun j g=>by omega,fun k o=>by omega⟩
theorem Bf.skip (B:Bf sh mo c n w d out q t)(h:clash sh mo (out.getD q 0) t=true->(c t=c w\/c t=d)->t∈out):Bf sh mo c n w d out q (t+1):=⟨B.nd,B.lt,B.ch,B.has,B.done,fun k j f g=>by
 by_cases e:k=t
 .subst e;exact h f g
 .exact B.now k (by omega) f g⟩
theorem Bf.add (B:Bf sh mo c n w d out q t)(hq:q<out.length)(ht:t<n)(h1:clash sh mo (out.getD q 0) t=true)(h2:c t=c w\/c t=d)(h3:t∉out):Bf sh mo c n w d (out++[t]) q (t+1):=by
 refine⟨mD.2 ⟨B.nd,by simp,fun a u b p e=> ?_⟩,fun x o=> ?_,fun x o=> ?_,fo _ B.has,fun j v k r f g=> ?_,fun k r f g=> ?_⟩
 .rw[bv]at p;exact h3 (by rw[<-p,<-e];exact u)
 .rcases cz.1 o with h|h
  .exact B.lt x h
  .rw[bv.1 h];exact ht
 .rcases cz.1 o with h|h
  .exact B.ch x h
  .rw[bv.1 h];exact .step _ t (B.ch _ (zIl hq)) ht h1 h2
 .rw[zF9 (by omega)]at f;exact fo _ (B.done j v k r f g)
 .rw[zF9 hq]at f;by_cases e:k=t
  .subst e;simp
  .exact fo _ (B.now k (by omega) f g)
theorem Bf.next (B:Bf sh mo c n w d out q n):Bf sh mo c n w d out (q+1) 0:=⟨B.nd,B.lt,B.ch,B.has,fun j p k f g o=>by
 by_cases e:j=q
 .subst e;exact B.now k f g o
 .exact B.done j (by omega) k f g o,fun k f=>by omega⟩
theorem Bf.fin (B:Bf sh mo c n w d out out.length 0)(x:Nat):x∈out<->Ch sh mo c n w d x:=by
 refine⟨B.ch x,fun h=> ?_⟩;induction h with
 |base=>exact B.has
 |step i k _ hk hcl hcol ih=>
  obtain⟨j,f,e⟩:=zJe ih;exact B.done j f k hk (by rw[e];exact hcl) hcol
theorem Bf.size (B:Bf sh mo c n w d out q t):out.length<=n:=by
 have:=zD1 (m:=bn n) B.nd fun x f=>aX.2 (B.lt x f)
 rwa[sQ]at this
structure Al (sh mo:Nat->Nat)(n M S:Nat)(st:St)(X Y:List Nat)(q t:Nat):Prop where
 xn:X.Nodup
 yn:Y.Nodup
 xs:∀s,s∈X->s<S/\RS sh mo n M st s
 ys:∀m,m∈Y->∃i,i<n/\RS sh mo n M st (sh i)/\mo i=m
 free:∀s,s<S->served sh M st s=0->s∈X
 step:∀m i,m∈Y->st.by_ m=some i->sh i∈X
 done:∀j,j<q->∀i,i<n->sh i=X.getD j 0->mo i∈Y
 now:∀i,i<n->sh i=X.getD q 0->mo i<t->mo i∈Y
end
variable {st:St}{X Y:List Nat}
theorem Al.skip (A:Al sh mo n M S st X Y q t)(h:(∃i,i<n/\sh i=X.getD q 0/\mo i=t)->t∈Y):Al sh mo n M S st X Y q (t+1):=⟨A.xn,A.yn,A.xs,A.ys,A.free,A.step,A.done,fun i g f j=>by
 by_cases e:mo i=t
 .rw[e];exact h ⟨i,g,f,e⟩
 .exact A.now i g f (by omega)⟩
theorem Al.add (A:Al sh mo n M S st X Y q t)(I:Inv mo (bn n) st)(hsh:∀i,i<n->sh i<S)(hq:q<X.length){i:Nat}(hi:i<n)(h1:sh i=X.getD q 0)(h2:mo i=t)(h3:t∉Y){Z:List Nat}(hZ:Z=(match st.by_ t with|some w=>if sh w∈X then[]else[sh w]|none=>[])):Al sh mo n M S st (X++Z) (Y++[t]) q (t+1):=by
 have E:RS sh mo n M st (sh i):=by rw[h1];exact(A.xs _ (zIl hq)).2
 have p:∀s,s∈Z->s∉X/\s<S/\RS sh mo n M st s:=fun s g=>by
  subst hZ;cases f:st.by_ t with
  |none=>rw[f]at g;exact absurd g kC
  |some w=>
   rw[f]at g;simp only at g;split at g
   .exact absurd g kC
   .rename_i J;rw[bv.1 g];exact⟨J,hsh w (aX.1 (I.ok _ _ f).1),.step i w E hi (by rw[h2];exact f)⟩
 have r:∀w,st.by_ t=some w->sh w∈X++Z:=fun w f=>by
  subst hZ;rw[f];simp only;split
  .rename_i h;exact fo _ h
  .simp
 have u:Z.Nodup:=by
  subst hZ;cases st.by_ t with
  |none=>exact BB
  |some w=>simp only;split<;>simp
 refine⟨mD.2 ⟨A.xn,u,fun a v b f e=>(p b f).1 (e▸v)⟩,mD.2 ⟨A.yn,by simp,fun a v b f e=> ?_⟩,fun s g=> ?_,fun m C=> ?_,fun s g F=>fo _ (A.free s g F),fun m w C f=> ?_,fun j H k B o=> ?_,fun k B o N=> ?_⟩
 .rw[bv]at f;exact h3 (by rw[<-f,<-e];exact v)
 .rcases cz.1 g with h|h
  .exact A.xs s h
  .exact(p s h).2
 .rcases cz.1 C with h|h
  .exact A.ys m h
  .rw[bv.1 h];exact⟨i,hi,E,h2⟩
 .rcases cz.1 C with h|h
  .exact fo _ (A.step m w h f)
  .rw[bv.1 h]at f;exact r w f
 .rw[zF9 (by omega)]at o;exact fo _ (A.done j H k B o)
 .rw[zF9 hq]at o;by_cases e:mo k=t
  .rw[e];simp
  .exact fo _ (A.now k B o (by omega))
theorem Al.next (A:Al sh mo n M S st X Y q M)(hmo:∀i,i<n->mo i<M):Al sh mo n M S st X Y (q+1) 0:=⟨A.xn,A.yn,A.xs,A.ys,A.free,A.step,fun j o i f g=>by
 by_cases e:j=q
 .subst e;exact A.now i f g (hmo i f)
 .exact A.done j (by omega) i f g,fun i f _ h=>by omega⟩
theorem Al.size (A:Al sh mo n M S st X Y q t):X.length<=S:=by
 have:=zD1 (m:=bn S) A.xn fun x f=>aX.2 (A.xs x f).1
 rwa[sQ]at this
theorem Al.fin (A:Al sh mo n M S st X Y X.length 0)(hsh:∀i,i<n->sh i<S):Alt sh mo n M S st X Y:=by
 have g:∀s,RS sh mo n M st s->s<S->s∈X:=fun s r=>by
  induction r with
  |base s h0=>exact fun h=>A.free s h h0
  |step i w _ f hb ih=>
   intro _;obtain⟨j,o,e⟩:=zJe (ih (hsh i f));exact A.step _ w (A.done j o i f e.symm) hb
 refine⟨A.xn,A.yn,fun s=>⟨A.xs s,fun h=>g s h.2 h.1⟩,fun m=>⟨A.ys m,?_⟩⟩;rintro⟨i,f,p,rfl⟩;obtain⟨j,o,e⟩:=zJe (g _ p (hsh i f));exact A.done j o i f e.symm
end MB
end Go.Proofs.YtejmkibjpaoahaaGreatDoor.Mo
namespace Go.Proofs.YtejmkibjpaoahaaGreatDoor.Mo
open Go Go.Proofs Go.Eng Tab
section
variable {M S:Nat}{a:Option Addr}{h:Eng.Heap}{i:Nat}
set_option maxHeartbeats 1000000
theorem zDD {b:Nat}{x:Int}{ct:TypeId}{fr:Nat×Nat}(hb:h[b]? =some (.cells #[.int .i64 x] ct fr)):eu h (some ⟨b,0,none⟩) 1 [x]:=eu.block (xs:=[x]) hb
theorem pn1 {o o':Obj}:((h.push o).push o')[h.size+1]? =some o':=by rw[lT,if_pos (by simp)]
theorem pn0 {o o':Obj}:((h.push o).push o')[h.size]? =some o:=by rw[lT,if_neg (by simp)];exact jD
def inB (lo hi:Int)(xs:List Int):Bool:=xs.all fun x=>decide (lo<=x)&&decide (x<=hi)
theorem zDW {lo hi x:Int}:inB lo hi [x]=decide (lo<=x/\x<=hi):=by simp[inB]
theorem zKG {lo hi:Int}{xs:List Int}:inB lo hi xs=true<->∀x∈xs,lo<=x/\x<=hi:=by simp[inB]
structure Wn where
 s:Int
 m:Int
 deriving DecidableEq
def wnV (w:Wn):List Value:=[.int .i64 w.s,.int .i64 w.m]
def wsV (ws:List Wn):List Value:=ws.flatMap wnV
theorem zHX (w:Wn)(ws:List Wn):wsV (w::ws)=wnV w++wsV ws:=rfl
theorem zDd (ws:List Wn):(wsV ws).length=ws.length*2:=by
 induction ws with
 |nil=>rfl
 |cons e es ih=>rw[zHX,bQ,ih];simp[wnV];omega
theorem zJT:∀(es:List Wn) (j:Nat),(wsV es).drop (j*2)=wsV (es.drop j)
 |es,0=>by simp
 |[],j+1=>by simp[wsV]
 |e::es,j+1=>by
  have f:(j+1)*2=2+j*2:=by omega
  rw[zHX,f,<-List.drop_drop];have:(wnV e++wsV es).drop 2=wsV es:=by simp[wnV]
  rw[this,zJT es j];rfl
theorem zJU:∀(es:List Wn) (j:Nat),(wsV es).take (j*2)=wsV (es.take j)
 |es,0=>by simp[wsV]
 |[],j+1=>by simp[wsV]
 |e::es,j+1=>by
  have f:(j+1)*2=2+j*2:=by omega
  rw[zHX,f,List.take_add];have g:(wnV e++wsV es).take 2=wnV e:=by simp[wnV]
  have o:(wnV e++wsV es).drop 2=wsV es:=by simp[wnV]
  rw[g,o,zJU es j];rfl
theorem zGc (es:List Wn)(j:Nat)(hj:j<es.length):((wsV es).drop (j*2)).take 2=wnV es[j]:=by
 have f:((wsV es).drop (j*2)).take (1*2)=wsV ((es.drop j).take 1):=by rw[zJT,zJU]
 rw[Nat.one_mul]at f;rw[f,List.drop_eq_getElem_cons hj];simp only[List.take_succ_cons,List.take_zero,wsV,List.flatMap_cons,List.flatMap_nil,bK]
def wAt (ws:List Wn)(i:Nat):Wn:=ws.getD i ⟨0,0⟩
theorem zF3 {ws:List Wn}(hi:i<ws.length):wAt ws i=ws[i]:=by simp[wAt,lc,aF hi]
theorem zGa {ws:List Wn}(hi:i<ws.length):wAt ws i∈ws:=by rw[zF3 hi];exact cZ hi
theorem zPX {ws:List Wn}(hr:Row h a (wsV ws))(hi:i<ws.length):gm h (lg a (i*2)) 2=some [.int .i64 (wAt ws i).s,.int .i64 (wAt ws i).m]:=by
 have:=hr.cells (j:=i*2) (n:=2) (by rw[zDd];omega) (by omega);rw[zGc ws i hi]at this;rw[zF3 hi];exact this
theorem zEH {ws:List Wn}(hr:Row h a (wsV ws))(hi:i<ws.length):a.isSome=true:=hr.isSome (by rw[zDd];omega)
theorem zGo {ws:List Wn}(hr:Row h a (wsV ws))(hi:i<ws.length):jL h (lg a (i*2))=some (.int .i64 (wAt ws i).s):=by
 have g:=hr.cell (j:=i*2) (by rw[zDd];omega);have o:=zGc ws i hi;have f:(((wsV ws).drop (i*2)).take 2)[0]? =some (.int .i64 ws[i].s):=by rw[o];rfl
 rw[kE,if_pos (by omega),lh,aF (by rw[zDd];omega)]at f;rw[g,zF3 hi];exact f
theorem zFs {ws:List Wn}(hr:Row h a (wsV ws))(hi:i<ws.length):jL h (lg a (i*2+1))=some (.int .i64 (wAt ws i).m):=by
 have g:=hr.cell (j:=i*2+1) (by rw[zDd];omega);have o:=zGc ws i hi;have f:(((wsV ws).drop (i*2)).take 2)[1]? =some (.int .i64 ws[i].m):=by rw[o];rfl
 rw[kE,if_pos (by omega),lh,aF (by rw[zDd];omega)]at f;rw[g,zF3 hi];exact f
theorem faR {ws:List Wn}(hr:Row h a (wsV ws))(hi:i<ws.length)(k off:Nat)(h':Eng.Heap)(K:Value->Eng.Heap->Prop):faW (.pointer (lg a k)) (some off) h' K=K (.pointer (lg a (k+off))) h':=by
 rcases hr with f|⟨g,o,j,p,r,f,_⟩
 .have:=zDd ws;rw[f]at this;simp at this;omega
 .rw[f,gK,gK,Ue,Nat.add_assoc]
def okW (S M:Int)(w:Wn):Prop:=(0<=w.s/\w.s<S)/\(0<=w.m/\w.m<M)
instance (S M:Int)(w:Wn):Decidable (okW S M w):=by unfold okW;infer_instance
def chk (S M:Int)(ws:List Wn):Int:=
 if¬(1<=S/\S<=6)\/¬(1<=M/\M<=6)\/14<ws.length then 6
 else if∀w∈ws,okW S M w then 0 else 3
structure Vb (S M:Nat)(ws:List Wn):Prop where
 s1:1<=S
 s2:S<=6
 m1:1<=M
 m2:M<=6
 n:ws.length<=14
 ok:∀w∈ws,okW S M w
def shN (ws:List Wn)(i:Nat):Nat:=(wAt ws i).s.toNat
def moN (ws:List Wn)(i:Nat):Nat:=(wAt ws i).m.toNat
theorem zDw {S M:Int}{ws:List Wn}(H:chk S M ws=0):∃s m:Nat,S=s/\M=m/\Vb s m ws:=by
 unfold chk at H;split at H
 .omega
 split at H
 .rename_i p j;refine⟨S.toNat,M.toNat,by omega,by omega,by omega,by omega,by omega,by omega,by omega,fun w o=> ?_⟩;have:=j w o;have f:((S.toNat:Nat):Int)=S:=by omega
  have g:((M.toNat:Nat):Int)=M:=by omega
  rw[f,g];exact this
 .omega
theorem Vb.chk {ws:List Wn}(V:Vb S M ws):chk S M ws=0:=by
 have:=V.s1;have:=V.s2;have:=V.m1;have:=V.m2;have:=V.n;unfold Go.Proofs.YtejmkibjpaoahaaGreatDoor.Mo.chk;rw[if_neg (by omega),if_pos V.ok]
theorem Vb.s {ws:List Wn}(V:Vb S M ws)(hi:i<ws.length):(wAt ws i).s=(shN ws i:Nat)/\shN ws i<S:=by
 have h:=(V.ok _ (zGa hi)).1;unfold shN;omega
theorem Vb.m {ws:List Wn}(V:Vb S M ws)(hi:i<ws.length):(wAt ws i).m=(moN ws i:Nat)/\moN ws i<M:=by
 have h:=(V.ok _ (zGa hi)).2;unfold moN;omega
end
end Go.Proofs.YtejmkibjpaoahaaGreatDoor.Mo
namespace Go.Proofs.YtejmkibjpaoahaaGreatDoor.Mo
open Go Go.Proofs Go.Eng Tab
set_option maxHeartbeats 1000000
def zDa:=(aD @zD2 (aD @zDX @sz3))
def zCr:=(aD (aD @zD2 @by3) (aD @zDX (aD @sz3 @Tryz.underlying29)))
theorem zMs (n lo hi:Int)(p q:Nat)(h:Heap)(hp:h[p]? =some (.cells #[.int .i64 lo] 3))(hq:h[q]? =some (.cells #[.int .i64 hi] 3)):
 ak aS 95 (#[]++ #[.int .i64 n]++ #[.pointer (some ⟨p,0,none⟩),.pointer (some ⟨q,0,none⟩)]) h (fun v h'=>v= .bool (decide (n<lo)||decide (hi<n))/\Ext h h'):=by
 simp only[vW,wm,uA,dC,bS]
 (refine Rm Tryz.func95 rfl zQN ?_;simp only[Tryz.ntmps95,Tryz.results95,coreS,U1,splice,aC,af,seval,zDa])
 simp only[hp,hq,coreS,U1,splice,aC,af,seval,zDa];constructor
 .intro f;simp[f,Ext.refl]
 .intro f;simp[f,Ext.refl]
def idx (p:Int->Bool)(xs:List Int):Int:=match xs.findIdx? p with|some i=>i|none=> -1
theorem zFa {p:Int->Bool}{xs:List Int}(H:∀j<xs.length,p (xs.getD j 0)=false):idx p xs= -1:=by
 have:xs.findIdx? p=none:=by
  rw[kL];intro x g;obtain⟨j,f,rfl⟩:=uE g;have:=H j f;simpa[lc,aF f]using this
 simp[idx,this]
theorem zFb {p:Int->Bool}{xs:List Int}{i:Nat}(hi:i<xs.length)(H:∀j<i,p (xs.getD j 0)=false)(hp:p (xs.getD i 0)=true):idx p xs=i:=by
 have:xs.findIdx? p=some i:=by
  rw[dL];refine⟨hi,by simpa[lc,aF hi]using hp,fun j g=> ?_⟩;have f:j<xs.length:=by omega
  have:=H j g;simpa[lc,aF f]using this
 simp[idx,this]
theorem zKF (p:Int->Bool)(xs:List Int):decide (0<=idx p xs)=xs.any p:=by
 unfold idx;cases hf:xs.findIdx? p with
 |none=>
  rw[kL]at hf;have:xs.any p=false:=by rw[xz];intro x j;simp[hf x j]
  simp[this]
 |some i=>
  rw[dL]at hf;obtain⟨f,g,_⟩:=hf;have:xs.any p=true:=by rw[lw];exact⟨xs[i],cZ f,g⟩
  simp[this]
theorem zIs (a:Option Addr)(n c:Nat)(xs:List Int)(q:FuncId)(caps:Array Value)(p:Int->Bool)(h:Heap)(hs:eu h a n xs)(hl:n<=1000000)
 (hq:∀x∈xs,∀h',Ext h h'->ak aS q (#[]++ #[.int .i64 x]++caps) h' (fun v h''=>v= .bool (p x)/\Ext h' h'')):
 ak aS 161 #[.slice a n c,.func (.func q) #[] caps] h (fun v h'=>v= .int .i64 (idx p xs)/\Ext h h'):=by
 have O:=hs.len
 (refine Rm Tryz.func161 rfl zLc ?_;simp only[Tryz.ntmps161,Tryz.results161,coreS,U1,splice,aC,af,seval,zCr])
 refine zAi [4,5,8,9,10,11,12,13,14,15,16,17,18] (fun g h'=>∃i:Nat,i<=n/\g 8= .int .i64 i/\(∀j<i,p (xs.getD j 0)=false)/\Ext h h') (fun g _=>match g 8 with| .int _ m=>n-m.toNat|_=>0) ?_ ?_
 .exact⟨0,by omega,rfl,fun j H=>by omega,Ext.refl h⟩
 .intro g h' I;obtain⟨i,J,r,f,o⟩:=I;by_cases E:i<xs.length
  .simp only[r,(hs.ext o).cell E,coreS,aC,af,seval,zCr];refine⟨fun A=>⟨⟨by omega,by omega⟩,(hs.ext o).isSome (by omega),?_⟩,fun u=>absurd u (by omega)⟩;have B:xs.getD i 0∈xs:=by simp[lc,aF E]
   refine ak.mono (hq _ B _ o) ?_;rintro v N ⟨rfl,C⟩;cases hp:p (xs.getD i 0)
   .simp only[coreS,aC,af,seval,zCr];refine⟨by rw[zBS];omega,Zr (by kernel_rfl) ⟨i+1,by omega,rfl,?_,o.trans C⟩ ?_⟩
    .intro j H;by_cases F:j=i
     .subst F;exact hp
     .exact f j (by omega)
    .show n-((i:Int)+1).toNat<n-(i:Int).toNat;omega
   .simp only[coreS,aC,af,seval,zCr];exact⟨by rw[zFb E f hp],o.trans C⟩
  .simp only[r,coreS,aC,af,seval,zCr];refine⟨fun A=>absurd A (by omega),fun u=> ?_⟩;exact⟨by rw[zFa fun j H=>f j (by omega)],o⟩
theorem zGt (a:Option Addr)(n c:Nat)(xs:List Int)(q:FuncId)(caps:Array Value)(p:Int->Bool)(h:Heap)(hs:eu h a n xs)(hl:n<=1000000)
 (hq:∀x∈xs,∀h',Ext h h'->ak aS q (#[]++ #[.int .i64 x]++caps) h' (fun v h''=>v= .bool (p x)/\Ext h' h'')):
 ak aS 94 #[.slice a n c,.func (.func q) #[] caps] h (fun v h'=>v= .bool (xs.any p)/\Ext h h'):=by
 (refine Rm Tryz.func94 rfl zOB ?_;simp only[Tryz.ntmps94,Tryz.results94,coreS,U1,splice,aC,af,seval])
 refine ak.mono (zIs a n c xs q caps p h hs hl hq) ?_;rintro v g ⟨rfl,f⟩;simp only[coreS,aC,af,seval];refine⟨?_,f⟩;congr 1;exact zKF p xs
theorem zFC (lo hi:Int)(a:Option Addr)(n c:Nat)(xs:List Int)(h:Heap)(hs:eu h a n xs)(hl:n<=1000000):
 ak aS 34 #[.int .i64 lo,.int .i64 hi,.slice a n c] h (fun v h'=>v= .bool (inB lo hi xs)/\Ext h h'):=by
 (refine Rm Tryz.func34 rfl zPq ?_;simp only[Tryz.ntmps34,Tryz.results34,coreS,U1,splice,aC,af,seval])
 refine ak.mono (zGt a n c xs 95 _ (fun x=>decide (x<lo)||decide (hi<x)) _ ((hs.push _).push _) hl ?_) ?_
 .intro x _ h' f;exact zMs x lo hi _ _ h' (f.get (by simp only[uo,Rh,Nat.left_eq_add,Nat.succ_ne_self,if_false,if_true])) (f.get (by simp only[uo,Rh,if_true]))
 .rintro v g ⟨rfl,f⟩;simp only[coreS,aC,af,seval];refine⟨?_,f.zBe.zBe⟩;congr 1;simp only[inB,List.not_any_eq_all_not];congr 1;funext x;by_cases j:x<lo<;>by_cases g:hi<x<;>simp[j,g,Int.not_lt.1,Int.not_le]<;>omega
end Go.Proofs.YtejmkibjpaoahaaGreatDoor.Mo
namespace Go.Proofs.YtejmkibjpaoahaaGreatDoor.Mo
open Go Go.Proofs Go.Eng Tab
section
variable {es:List Wn}
set_option maxHeartbeats 1000000
def zDV:=(aD (aD @zI3 (aD @zLv @zLw)) (aD (aD @zIt @zPL) (aD @zMj @zNt)))
def zC8:=(aD (aD (aD @zGI (aD @zD2 @by3)) (aD @zGx (aD @zGy @zEs))) (aD (aD @zGM (aD @zDX @zJP)) (aD (aD @sz3 @zDf) (aD @Tryz.underlying22 @Tryz.underlying29))))
def zCs:=(aD (aD (aD @zD2 @by3) (aD @zGx (aD @zGy @zFw))) (aD (aD @zFx @zDX) (aD @sz3 (aD @zDf @Tryz.underlying29))))
def zCt:=(aD (aD @zL1 @zK3) (aD @zHe (aD @zLO @Tryz.underlying22)))
def wQ (p:Wn->Bool)(es:List Wn):Int:=match es.findIdx? p with|some i=>i|none=> -1
theorem zKo {p:Wn->Bool}(H:∀e∈es,p e=false):wQ p es= -1:=by
 have:es.findIdx? p=none:=by rw[kL];exact fun x f=>by simp[H x f]
 simp[wQ,this]
theorem zKp {p:Wn->Bool}{i:Nat}(hi:i<es.length)(H:∀j<i,p (wAt es j)=false)(hp:p (wAt es i)=true):wQ p es=i:=by
 have:es.findIdx? p=some i:=by
  rw[dL];refine⟨hi,by rw[<-zF3 hi];exact hp,fun j g=> ?_⟩;have f:j<es.length:=by omega
  have:=H j g;rw[zF3 f]at this;simp[this]
 simp[wQ,this]
theorem zMH (p:Wn->Bool)(es:List Wn):decide (0<=wQ p es)=es.any p:=by
 unfold wQ;cases hf:es.findIdx? p with
 |none=>
  rw[kL]at hf;have:es.any p=false:=by rw[xz];intro x j;simp[hf x j]
  simp[this]
 |some i=>
  rw[dL]at hf;obtain⟨f,g,_⟩:=hf;have:es.any p=true:=by rw[lw];exact⟨es[i],cZ f,g⟩
  simp[this]
theorem zKL {e:Wn}(h:e∈es):∃i,i<es.length/\wAt es i=e:=by
 obtain⟨i,f,rfl⟩:=uE h;exact⟨i,f,zF3 f⟩
theorem zIr (a:Option Addr)(n c:Nat)(es:List Wn)(q:FuncId)(caps:Array Value)(p:Wn->Bool)(h:Eng.Heap)(hr:Row h a (wsV es))(hn:n=es.length)(hl:n<=1000000)
 (hq:∀e∈es,∀h',Ext h h'->ak aS q (#[]++ #[.agg #[.int .i64 e.s,.int .i64 e.m]]++caps) h' (fun v h''=>v= .bool (p e)/\Ext h' h'')):
 ak aS 225 #[.slice a n c,.func (.func q) #[] caps] h (fun v h'=>v= .int .i64 (wQ p es)/\Ext h h'):=by
 (refine Rm Tryz.func225 rfl zOf ?_;simp only[Tryz.ntmps225,Tryz.results225,coreS,U1,splice,aC,af,seval,zCt])
 refine zAi [4,5,8,9,10,11,12,13,14,15,16,17,18] (fun g h'=>∃i:Nat,i<=n/\g 8= .int .i64 i/\(∀j<i,p (wAt es j)=false)/\Ext h h') (fun g _=>match g 8 with| .int _ m=>n-m.toNat|_=>0) ?_ ?_
 .exact⟨0,by omega,rfl,by omega,Ext.refl h⟩
 .rintro g h' ⟨i,J,o,f,A⟩;by_cases C:i<es.length
  .have H:a.isSome=true:=zEH hr C;have E:=zPX (hr.ext A) C;simp only[o,E,coreS,aC,af,seval,zCt];refine⟨fun u=>⟨⟨by omega,by omega⟩,H,?_⟩,fun r=>absurd r (by omega)⟩;refine ak.mono (hq _ (zGa C) _ A) ?_;rintro v O ⟨rfl,B⟩;cases hp:p (wAt es i)
   .simp only[coreS,aC,af,seval,zCt];refine⟨by rw[zBS];omega,Zr (by kernel_rfl) ⟨i+1,by omega,rfl,fun j N=> ?_,A.trans B⟩ ?_⟩
    .by_cases F:j=i
     .subst F;exact hp
     .exact f j (by omega)
    .show n-((i:Int)+1).toNat<n-(i:Int).toNat;omega
   .simp only[coreS,aC,af,seval,zCt];exact⟨by rw[zKp C f hp],A.trans B⟩
  .simp only[o,coreS,aC,af,seval,zCt];refine⟨fun u=>absurd u (by omega),fun r=> ?_⟩;exact⟨by rw[zKo fun e I=>by obtain⟨j,N,rfl⟩:=zKL I;exact f j (by omega)],A⟩
theorem zGs (a:Option Addr)(n c:Nat)(es:List Wn)(q:FuncId)(caps:Array Value)(p:Wn->Bool)(h:Eng.Heap)(hr:Row h a (wsV es))(hn:n=es.length)(hl:n<=1000000)
 (hq:∀e∈es,∀h',Ext h h'->ak aS q (#[]++ #[.agg #[.int .i64 e.s,.int .i64 e.m]]++caps) h' (fun v h''=>v= .bool (p e)/\Ext h' h'')):
 ak aS 160 #[.slice a n c,.func (.func q) #[] caps] h (fun v h'=>v= .bool (es.any p)/\Ext h h'):=by
 (refine Rm Tryz.func160 rfl zO8 ?_;simp only[Tryz.ntmps160,Tryz.results160,coreS,U1,splice,aC,af,seval])
 refine ak.mono (zIr a n c es q caps p h hr hn hl hq) ?_;rintro v g ⟨rfl,f⟩;simp only[coreS,aC,af,seval];refine⟨?_,f⟩;congr 1;exact zMH p es
theorem zNm (S M:Int)(sl:Value)(w:Wn)(b:Nat)(h:Eng.Heap)(hb:h[b]? =some (.cells #[.int .i64 S,.int .i64 M,sl] 24))(hS:1<=S/\S<=6)(hM:1<=M/\M<=6):
 ak aS 159 (#[]++ #[.agg #[.int .i64 w.s,.int .i64 w.m]]++ #[.pointer (some ⟨b,0,none⟩)]) h (fun v h'=>v= .bool (!decide (okW S M w))/\Ext h h'):=by
 simp only[vW,wm,uA,dC,bS]
 (refine Rm Tryz.func159 rfl zO7 ?_;simp only[Tryz.ntmps159,Tryz.results159,coreS,U1,splice,aC,af,seval,zCs])
 have j:¬(b=h.size):=by have:=bA hb;omega
 simp only[j,hb,if_false,splice,coreS,aC,af,seval,zCs];refine⟨by rw[zBS];omega,?_⟩;refine ak.mono (zFC 0 (S-1) _ 1 1 [w.s] _ (zDD pn1) (by omega)) ?_;rintro v B ⟨rfl,o⟩;have f:=o.get pn0;have g:=o.zBe.zBe.get hb;have r:=o.zBe.zBe;by_cases p:0<=w.s/\w.s<=S-1
 .simp only[zDW,p,f,g,and_self,decide_true,bP,splice,coreS,aC,af,seval,zCs];refine⟨by rw[zBS];omega,?_⟩;refine ak.mono (zFC 0 (M-1) _ 1 1 [w.m] _ (zDD jD) (by omega)) ?_;rintro v C ⟨rfl,u⟩;have A:=r.trans u.zBe;simp only[zDW,coreS,aC,af,seval,zCs];refine⟨?_,A⟩;congr 2;rw[decide_eq_decide];unfold okW;omega
 .have:¬okW S M w:=by unfold okW;omega
  simp only[zDW,p,this,decide_false,bJ,coreS,aC,af,seval,zCs];exact r
theorem zND (S M:Int)(a:Option Addr)(n c:Nat)(ws:List Wn)(h:Eng.Heap)(hr:Row h a (wsV ws))(hn:n=ws.length)(hl:n<=1000000):
 ak aS 93 #[.agg #[.int .i64 S,.int .i64 M,.slice a n c]] h (fun v h'=>v= .int .i64 (chk S M ws)/\Ext h h'):=by
 (refine Rm Tryz.func93 rfl zQM ?_;simp only[Tryz.ntmps93,Tryz.results93,coreS,U1,splice,aC,af,seval,zC8])
 refine ak.mono (zFC 1 6 _ 1 1 [S] _ (zDD pn1) (by omega)) ?_;rintro v B ⟨rfl,E⟩;have o:=E.get pn0;have H:=E.zBe.zBe;by_cases r:1<=S/\S<=6
 .simp only[zDW,r,o,and_self,decide_true,bP,splice,coreS,aC,af,seval,zC8];refine ak.mono (zFC 1 6 _ 1 1 [M] _ (zDD jD) (by omega)) ?_;rintro v J ⟨rfl,F⟩;have j:=F.zBe.get o;have u:=H.trans F.zBe;by_cases p:1<=M/\M<=6
  .by_cases C:14<(n:Int)
   .have g:chk S M ws=6:=by unfold chk;rw[if_pos (.inr (.inr (by omega)))]
    simp only[zDW,p,j,C,g,and_self,decide_true,bP,splice,coreS,aC,af,seval,zC8];exact u
   .simp only[zDW,p,j,C,and_self,decide_true,decide_false,bP,splice,coreS,aC,af,seval,zC8];refine ak.mono (zGs a n c ws 159 _ (fun e=> !decide (okW S M e)) J (hr.ext u) hn hl fun e _ h' N=>zNm S M _ e _ h' (N.get j) r p) ?_;rintro v Q ⟨rfl,O⟩;have I:=u.trans O;by_cases hall:∀e∈ws,okW S M e
    .have f:(ws.any fun e=> !decide (okW S M e))=false:=by
      rw[xz];intro e A;simp[hall e A]
     have g:chk S M ws=0:=by unfold chk;rw[if_neg (by omega),if_pos hall]
     simp only[f,g,coreS,aC,af,seval,zC8];exact I
    .have f:(ws.any fun e=> !decide (okW S M e))=true:=by
      rw[lw];simp only[Classical.not_forall]at hall;obtain⟨e,A,B⟩:=hall;exact⟨e,A,by simp[B]⟩
     have g:chk S M ws=3:=by unfold chk;rw[if_neg (by omega),if_neg hall]
     simp only[f,g,coreS,aC,af,seval,zC8];exact I
  .have g:chk S M ws=6:=by unfold chk;rw[if_pos (.inr (.inl p))]
   simp only[zDW,p,g,decide_false,bJ,coreS,aC,af,seval,zC8];exact u
 .have g:chk S M ws=6:=by unfold chk;rw[if_pos (.inl r)]
  simp only[zDW,r,g,decide_false,bJ,coreS,aC,af,seval,zC8];exact H
def zFR (h:Eng.Heap)(g b:Nat)(S M:Nat)(a:Option Addr)(n c:Nat):Prop:=h[g]? =some (.cells #[.int .i64 S,.int .i64 M,.slice a n c,.map (some b)] 166)
theorem zM7 (S M:Int)(a:Option Addr)(n c:Nat)(ws:List Wn)(h:Eng.Heap)(hr:Row h a (wsV ws))(hn:n=ws.length)(hl:n<=1000000):
 ak aS 33 #[.agg #[.int .i64 S,.int .i64 M,.slice a n c]] h (fun v h'=>Ext h h'/\
  ((∃s m:Nat,S=s/\M=m/\Vb s m ws/\∃g b,v= .tuple #[.pointer (some ⟨g,0,none⟩),.int .i64 0]/\zFR h' g b s m a n c/\h'[b]? =some (.map #[] 0)/\h.size<=g/\h.size<=b)\/
   (chk S M ws≠0/\v= .tuple #[.pointer none,.int .i64 (chk S M ws)]))):=by
 (refine Rm Tryz.func33 rfl zPp ?_;simp only[Tryz.ntmps33,Tryz.results33,coreS,U1,splice,aC,af,seval,zDV])
 have u:Ext h (h.push (.cells #[.int .i64 S,.int .i64 M,.slice a n c] 24)):=(Ext.refl h).push _;refine ak.mono (zND S M a n c ws _ (hr.push _) hn hl) ?_;rintro v p ⟨rfl,r⟩;have o:=r.get (jD (h:=h));have j:=u.trans r;by_cases f:chk S M ws=0
 .simp only[f,o,splice,coreS,aC,af,seval,zDV];obtain⟨s,m,rfl,rfl,V⟩:=zDw f;exact⟨(j.push _).push _,.inl ⟨s,m,rfl,rfl,V,p.size+1,p.size,rfl,by unfold zFR;exact pn1,by simp,by have:=j.size;omega,j.size⟩⟩
 .simp only[f,decide_false,bJ,coreS,aC,af,seval,zDV];refine⟨j,.inr ?_⟩;exact f
end
end Go.Proofs.YtejmkibjpaoahaaGreatDoor.Mo
namespace Go.Proofs.YtejmkibjpaoahaaGreatDoor.Mo
open Go Go.Proofs Go.Eng Tab
set_option maxHeartbeats 1000000
def zDY:=(aD (aD (aD (aD @zGI @zD2) (aD @zL1 @zK3)) (aD (aD @zGx @zGy) (aD @zEs @zFw))) (aD (aD (aD @zFx @zGM) (aD @zDX @zHe)) (aD (aD @zJP @sz3) (aD @zLO (aD @zMu @Tryz.underlying22)))))
theorem zNE (S M:Int)(a:Option Addr)(n c:Nat)(ws:List Wn)(h:Eng.Heap)(hr:Row h a (wsV ws))(hn:n=ws.length):
 ak aS 6 #[.agg #[.int .i64 S,.int .i64 M,.slice a n c]] h (fun v h'=>v= .int .i64 (chk S M ws)/\Ext h h'):=by
 have E:Ext h (h.push (.cells #[.int .i64 S,.int .i64 M,.slice a n c] 24)):=(Ext.refl h).push _;have F:=jD (h:=h) (o:= .cells #[.int .i64 S,.int .i64 M,.slice a n c] 24);have H:=hr.push (.cells #[.int .i64 S,.int .i64 M,.slice a n c] 24)
 (refine Rm Tryz.func6 rfl zQy ?_;simp only[Tryz.ntmps6,Tryz.results6,coreS,U1,splice,aC,af,seval,zDY])
 have f:∀{p:Int} {q:Prop},chk S M ws=p->q->tq .i64 p=tq .i64 (chk S M ws)/\q:=fun h hq=>⟨by rw[h],hq⟩
 have u:¬(1<=S/\S<=6)\/¬(1<=M/\M<=6)\/14<ws.length->chk S M ws=6:=fun h=>by unfold chk;rw[if_pos h]
 refine⟨fun h1=>f (u (by omega)) E,fun h1=>⟨fun h2=>f (u (by omega)) E,fun h2=>⟨fun h3=>f (u (by omega)) E,fun h3=>⟨fun h4=>f (u (by omega)) E,fun h4=>⟨fun h5=>f (u (by omega)) E,fun h5=> ?_⟩⟩⟩⟩⟩;have r:∀i,i<ws.length->¬okW S M (wAt ws i)->chk S M ws=3:=fun i B A=>by
  unfold chk;rw[if_neg (by omega),if_neg];exact fun hall=>A (hall _ (zGa B))
 generalize h.push (.cells #[.int .i64 S,.int .i64 M,.slice a n c] 24)=hh at E F H ⊢;refine zAi [2,3,4,29,30,31,32,33,34,35,36,37,38,39,40,41,42,43,44,45,46,47,48,49,50,51,52,53,54,55,56,57,58,59,60,61,62] (fun g h'=>Ext hh h'/\∃i:Nat,i<=n/\g 3= .int .i64 i/\(∀j<i,okW S M (wAt ws j))) (fun g _=>match g 3 with| .int _ m=>n-m.toNat|_=>0) ?_ ?_
 .exact⟨Ext.refl _,0,by omega,rfl,fun j U=>by omega⟩
 .rintro g h' ⟨x,i,hin,T,A⟩;have J:=x.get F;have y:=E.trans x;by_cases B:i<ws.length
  .have hc:=zPX (H.ext x) B;have Q:=zEH hr B;have O:¬(h.size=h'.size):=by have:=bA J;omega
   have C:(i:Int)<(n:Int):=by omega
   simp only[T,J,hc,O,C,decide_true,if_false,coreS,U1,splice,aC,af,seval,zDY];refine⟨by omega,Q,?_⟩;have I:=y.push (.cells #[.int .i64 (wAt ws i).s,.int .i64 (wAt ws i).m] 42);refine⟨fun V=>f (r i B (by unfold okW;omega)) I,fun V=>⟨fun W=>f (r i B (by unfold okW;omega)) I,fun W=>⟨fun Z=>f (r i B (by unfold okW;omega)) I,fun Z=>⟨fun g4=>f (r i B (by unfold okW;omega)) I,fun g4=> ?_⟩⟩⟩⟩;refine⟨by rw[zBS];omega,Zr (by kernel_rfl) ⟨x.push _,i+1,by omega,rfl,fun j U=> ?_⟩ ?_⟩
   .by_cases N:j=i
    .subst N;unfold okW;omega
    .exact A j (by omega)
   .show n-((i:Int)+1).toNat<n-(i:Int).toNat;omega
  .have C:¬((i:Int)<(n:Int)):=by omega
   simp only[T,J,C,decide_false,coreS,aC,af,seval,zDY];refine f ?_ y;unfold chk;rw[if_neg (by omega),if_pos];intro w hw;obtain⟨j,U,rfl⟩:=zKL hw;exact A j (by omega)
end Go.Proofs.YtejmkibjpaoahaaGreatDoor.Mo
namespace Go.Eng
open Go
attribute [local semireducible] aI iP gP lm WP
inductive PT where
 |fin
 |quiet (i:Nat) (r:PT)
 |pure (i:Nat) (r:PT)
 |one (i:Nat) (r:PT)
 |keep (i:Nat) (r:PT)
 |fork (x y:Nat) (a b:PT)
 |yo (x y:Nat) (u v:Bool) (a b:PT)
 |lu (x y z:Nat) (u v w:Bool) (a b c:PT)
def PT.size:PT->Nat
 | .fin=>0
 | .quiet _ r| .pure _ r| .one _ r| .keep _ r=>r.size+1
 | .fork _ _ a _=>a.size+1
 | .yo _ _ _ _ a _=>a.size+1
 | .lu _ _ _ _ _ _ a _ _=>a.size+1
def PT.G:PT->Nat->Bool
 | .fin,_=>true
 | .quiet _ r,j| .pure _ r,j| .keep _ r,j=>r.G j
 | .one i r,j=> !(i==j)&&r.G j
 | .fork _ _ a b,j=>a.G j&&b.G j
 | .yo x y u v a b,j=>(u|| !(x==j))&&((v|| !(y==j))&&(a.G j&&b.G j))
 | .lu x y z u v w a b c,j=>(u|| !(x==j))&&((v|| !(y==j))&&((w|| !(z==j))&&(a.G j&&(b.G j&&c.G j))))
section tree
variable {P:Program}{l:Option Nat}{R:Heap->Heap->Prop}{G:Nat->Bool}
theorem VG {all:List Oper}{i:Nat}{o:Oper}{e:Env}{d:List Deferred}{w1:World}{Kx:Env->Heap->Prop}{Kf:Act->World->Prop}(hi:all[i]? =some o)
 (H:ax o.guard all e (fun e=>opW P o.op o.type e w1.heap (fun v h''=>(G i=true->R w1.heap h'')/\Kx (aU e o.dst v) h'')) (fun e=>(G i=true->R w1.heap w1.heap)/\Kx (aU e o.dst undef) w1.heap)) (fin:∀e' w',Rest w1 w'->Kx e' w'.heap->Kf ⟨e'.toArray,d⟩ w'):
 opD P all.toArray i (fun a' w'=>(G i=true->R w1.heap w'.heap)/\Rest w1 w'/\Kf a' w') ⟨e.toArray,d⟩ w1:=by
 have A:all.toArray[i]? =some o:=by simpa using hi
 unfold opD;simp only[A];rcases dB H o rfl with⟨C,J⟩|⟨C,F⟩
 .simp only[C,if_true];have u:=aM J;unfold aI at u;refine⟨u.1,?_⟩;have g:=u.2 w1 rfl;rw[dY,bW];have j:∀v w',Rest w1 w'->((G i=true->R w1.heap w'.heap)/\Kx (aU e o.dst v) w'.heap)->(G i=true->R w1.heap w'.heap)/\Rest w1 w'/\Kf ((Act.mk e.toArray d).put o.dst v) w':=by
   intro v w' r I;refine⟨I.1,r,?_⟩;rw[ay];exact fin _ _ r I.2
  unfold dQ at g;unfold fH;split at g
  .exact⟨j _ _ g.2 g.1,g.2⟩
  .exact⟨j _ _ g.2 g.1,g.2⟩
  .exact⟨g.1,Calls.mono g.2 fun x p ⟨v,E,B,f⟩=>⟨v,E,j v p (g.1.trans f) B,f⟩⟩
  .exact⟨g.1,RoundIn.mono g.2 fun x p ⟨v,E,B,f⟩=>⟨v,E,j v p (g.1.trans f) B,f⟩⟩
  .exact g.elim
 .simp only[C];refine⟨F.1,Rest.refl _,?_⟩;rw[ay];exact fin _ _ (Rest.refl _) F.2
def stO (P:Program)(all:List Oper)(o:Option Oper)(e:Env)(h:Heap)(K:Env->Heap->Prop):Prop:=
 match o with
 |some o=>ax o.guard all e (fun e=>opW P o.op o.type e h (fun v h'=>K (aU e o.dst v) h')) (fun e=>K (aU e o.dst undef) h)
 |none=>False
def ah (P:Program)(R:Heap->Heap->Prop)(all:List Oper):PT->aj->Env->List Deferred->Heap->Prop
 | .fin,k,e,d,h=>∀h',R h h'->k .normal e d h'
 | .quiet i rest,k,e,d,h=>match all[i]? with
   |some o=>ax o.guard all e (fun e=>dK P R o.op o.type e h (fun v h'=>ah P R all rest k (aU e o.dst v) d h')) (fun e=>ah P R all rest k (aU e o.dst undef) d h)
   |none=>False
 | .pure i rest,k,e,d,h=>match all[i]? with
   |some o=>ax o.guard all e (fun e=>fK P o.op e h (fun v h'=>ah P R all rest k (aU e o.dst v) d h')) (fun e=>ah P R all rest k (aU e o.dst undef) d h)
   |none=>False
 | .one i rest,k,e,d,h=>∀h',R h h'->stO P all all[i]? e h' (fun e h''=>ah P R all rest k e d h'')
 | .keep i rest,k,e,d,h=>∀h',R h h'->stO P all all[i]? e h' (fun e h''=>R h' h''/\ah P R all rest k e d h'')
 | .fork x y a b,k,e,d,h=>∀h',R h h'->stO P all all[x]? e h' (fun e h''=>R h' h''/\ah P R all a k e d h'')/\stO P all all[y]? e h' (fun e h''=>R h' h''/\ah P R all b k e d h'')
 | .yo x y u v a b,k,e,d,h=>∀h',R h h'->stO P all all[x]? e h' (fun e h''=>(u=true->R h' h'')/\ah P R all a k e d h'')/\stO P all all[y]? e h' (fun e h''=>(v=true->R h' h'')/\ah P R all b k e d h'')
 | .lu x y z u v t a b c,k,e,d,h=>∀h',R h h'->stO P all all[x]? e h' (fun e h''=>(u=true->R h' h'')/\ah P R all a k e d h'')/\stO P all all[y]? e h' (fun e h''=>(v=true->R h' h'')/\ah P R all b k e d h'')/\stO P all all[z]? e h' (fun e h''=>(t=true->R h' h'')/\ah P R all c k e d h'')
def okT (G:Nat->Bool)(all:List Oper):PT->Array Bool->Bool
 | .fin,listed=>(dS .any all.toArray listed).isEmpty
 | .quiet i rest,listed=>(dS .any all.toArray listed).contains i&&vQ all listed i (blk all listed i all.length 0 [])&&
  ((bn all.length).all fun j=>j==i||listed.getD j true||(blk all listed i all.length 0 []).contains j||(G j&&(match all[i]?,all[j]? with|some oi,some oj=>oi.apart all.toArray oj|_,_=>true)))&&
  okT G all rest (listed.setIfInBounds i true)
 | .pure i rest,listed=>(dS .any all.toArray listed).contains i&&vQ all listed i (blk all listed i all.length 0 [])&&
  ((bn all.length).all fun j=>j==i||listed.getD j true||(blk all listed i all.length 0 []).contains j||(match all[i]?,all[j]? with|some oi,some oj=>oi.apart all.toArray oj|_,_=>true))&&
  okT G all rest (listed.setIfInBounds i true)
 | .one i rest,listed=> !(G i)&&decide (dS .any all.toArray listed=[i])&&okT G all rest (listed.setIfInBounds i true)
 | .keep i rest,listed=>decide (dS .any all.toArray listed=[i])&&okT G all rest (listed.setIfInBounds i true)
 | .fork x y a b,listed=>decide (dS .any all.toArray listed=[x,y])&&(decide (a.size=b.size)&&(okT G all a (listed.setIfInBounds x true)&&okT G all b (listed.setIfInBounds y true)))
 | .yo x y u v a b,listed=>(u|| !(G x))&&((v|| !(G y))&&(decide (dS .any all.toArray listed=[x,y])&&(decide (a.size=b.size)&&(okT G all a (listed.setIfInBounds x true)&&okT G all b (listed.setIfInBounds y true)))))
 | .lu x y z u v t a b c,listed=>(u|| !(G x))&&((v|| !(G y))&&((t|| !(G z))&&(decide (dS .any all.toArray listed=[x,y,z])&&(decide (a.size=b.size)&&(decide (a.size=c.size)&&(okT G all a (listed.setIfInBounds x true)&&(okT G all b (listed.setIfInBounds y true)&&okT G all c (listed.setIfInBounds z true))))))))
theorem dU {all:List Oper}{i:Nat}{e:Env}{d:List Deferred}{w1:World}{Kx:Env->Heap->Prop}{Kf:Act->World->Prop}(H:stO P all all[i]? e w1.heap (fun e h''=>(G i=true->R w1.heap h'')/\Kx e h''))(fin:∀e' w',Rest w1 w'->Kx e' w'.heap->Kf ⟨e'.toArray,d⟩ w'):
 opD P all.toArray i (fun a' w'=>(G i=true->R w1.heap w'.heap)/\Rest w1 w'/\Kf a' w') ⟨e.toArray,d⟩ w1:=by
 cases hi:all[i]? with
 |none=>rw[hi]at H;exact H.elim
 |some o=>rw[hi]at H;exact VG (Kx:=Kx) hi H fin
theorem JY {gd:Option (Nat×Bool)}{all:List Oper}{e:Env}{A A' B B':Env->Prop}(ha:∀e,A e->A' e)(hb:∀e,B e->B' e)(H:ax gd all e A B):ax gd all e A' B':=by
 cases gd with
 |none=>unfold ax at H ⊢;exact ha _ H
 |some p=>
  obtain⟨j,g⟩:=p;unfold ax at H ⊢;simp only at H ⊢;cases hj:fQ all j with
  |none=>simp only[hj]at H ⊢;exact hb _ H
  |some t=>
   simp only[hj]at H ⊢;unfold au at H ⊢;cases hv:e.getD t undef with
   |bool b=>
    simp only[hv]at H ⊢;refine⟨fun r=> ?_,fun r=> ?_⟩
    .have f:=H.1 r;by_cases o:true=g
     .rw[if_pos o]at f ⊢;exact ha _ f
     .rw[if_neg o]at f ⊢;exact hb _ f
    .have f:=H.2 r;by_cases o:false=g
     .rw[if_pos o]at f ⊢;exact ha _ f
     .rw[if_neg o]at f ⊢;exact hb _ f
   |_=>first|(simp only[hv]at H ⊢;done)|(simp only[hv]at H ⊢;exact hb _ H)
theorem fC {all:List Oper}{o:Option Oper}{e:Env}{h:Heap}{K K':Env->Heap->Prop}(H:stO P all o e h K)(hk:∀e h,K e h->K' e h):stO P all o e h K':=by
 cases o with
 |none=>exact H.elim
 |some o=>exact JY (fun e f=>BG (fun v h g=>hk _ _ g) f) (fun e f=>hk _ _ f) H
theorem bf (hS:Sta R){all:List Oper}{k:aj}{w0:World}(hsel:xW all.toArray=true):∀(t:PT) (listed:Array Bool) (e:Env) (d:List Deferred) (w:World),Rest w0 w->
 okT G all t listed=true->ah P R all t k e d w.heap->
 lQ P all.toArray R G (fun a w'=>k .normal a.tmps.toList a.defers w'.heap/\Rest w0 w') t.size listed ⟨e.toArray,d⟩ w
 | .fin,listed,e,d,w,hr,f,H=>fun w1 p E=>by
   refine⟨by simpa[okT]using f,?_,hr.trans p⟩;simpa using H _ E
 | .quiet i rest,listed,e,d,w,hr,f,H=>by
   simp only[okT,aY]at f;obtain⟨⟨⟨J,V⟩,hG⟩,f⟩:=f;unfold ah at H;cases hi:all[i]? with
   |none=>simp[hi]at H
   |some o=>
    simp only[hi]at H;have hi':all.toArray[i]? =some o:=by simpa using hi
    obtain⟨O,hBke⟩:∃O,O=blk all listed i all.length 0 []:=⟨_,rfl⟩;rw[<-hBke]at V hG;have hb1:∀j∈O,listed.getD j true=false:=fun j Z=>by
     have:=eB.1 V j Z;simp only[aY,fw]at this;exact this.1.1
    have hb2:∀j∈O,j≠i/\∀N,all.toArray[j]? =some N->∃e∈N.after,xJ .any e=true/\(e.on=i\/e.on∈O):=fun j Z=>by
     have:=eB.1 V j Z;simp only[aY,bne_iff_ne,ne_eq]at this;refine⟨this.1.2,fun N hoj=> ?_⟩;have W:all[j]? =some N:=by simpa using hoj
     have I:=this.2;rw[W]at I;obtain⟨e,he,hb⟩:=vE.1 I;simp only[aY,ed,beq_iff_eq,fe,decide_eq_true_eq]at hb;exact⟨e,he,hb.1,hb.2⟩
    have hfr:∀j N,all.toArray[j]? =some N->j≠i->listed.getD j true=false->j∉O->o.apart all.toArray N=true/\G j=true:=by
     intro j N Z hne hun hno;have hlt:j<all.length:=by have:=(eF.1 Z).1;simpa using this
     have:=eB.1 hG j (aX.2 hlt);have W:all[j]? =some N:=by simpa using Z
     simp only[hi,W,ed,aY,beq_iff_eq,hne,false_or,hun,kz,fe,decide_eq_true_eq,hno]at this;exact⟨this.2,this.1⟩
    have T:i∈dS .any all.toArray listed:=by simpa using J
    rcases dB H o rfl with⟨hw,hA⟩|⟨hw,hB⟩
    .have F:=tV hS hA;unfold iP at F;obtain⟨v,hv,r⟩:=F;refine ja hS hi' (kD hsel) O hb2 rest.size listed _ w hfr hb1 T (v:=v) ?_ ?_
     .refine .inl ⟨hw,fun w' hr' hR'=> ?_⟩;have h1:=hv _ hR';refine⟨h1.1,?_⟩;have I:=h1.2 w' rfl;rw[dY,bW];unfold dQ at I;unfold fH;split at I
      .exact I
      .exact I
      .exact I
      .exact I
      .exact I.elim
     .rw[ay];exact bf hS hsel rest _ _ d w hr f r
    .refine ja hS hi' (kD hsel) O hb2 rest.size listed _ w hfr hb1 T (v:=undef) (.inr ⟨hw,rfl⟩) ?_;rw[ay];exact bf hS hsel rest _ _ d w hr f hB
 | .pure i rest,listed,e,d,w,hr,f,H=>by
   simp only[okT,aY]at f;obtain⟨⟨⟨J,V⟩,hG⟩,f⟩:=f;unfold ah at H;cases hi:all[i]? with
   |none=>simp[hi]at H
   |some o=>
    simp only[hi]at H;have hi':all.toArray[i]? =some o:=by simpa using hi
    obtain⟨O,hBke⟩:∃O,O=blk all listed i all.length 0 []:=⟨_,rfl⟩;rw[<-hBke]at V hG;have hb1:∀j∈O,listed.getD j true=false:=fun j Z=>by
     have:=eB.1 V j Z;simp only[aY,fw]at this;exact this.1.1
    have hb2:∀j∈O,j≠i/\∀N,all.toArray[j]? =some N->∃e∈N.after,xJ .any e=true/\(e.on=i\/e.on∈O):=fun j Z=>by
     have:=eB.1 V j Z;simp only[aY,bne_iff_ne,ne_eq]at this;refine⟨this.1.2,fun N hoj=> ?_⟩;have W:all[j]? =some N:=by simpa using hoj
     have I:=this.2;rw[W]at I;obtain⟨e,he,hb⟩:=vE.1 I;simp only[aY,ed,beq_iff_eq,fe,decide_eq_true_eq]at hb;exact⟨e,he,hb.1,hb.2⟩
    have hfr:∀j N,all.toArray[j]? =some N->j≠i->listed.getD j true=false->j∉O->o.apart all.toArray N=true:=by
     intro j N Z hne hun hno;have hlt:j<all.length:=by have:=(eF.1 Z).1;simpa using this
     have:=eB.1 hG j (aX.2 hlt);have W:all[j]? =some N:=by simpa using Z
     simp only[hi,W,ed,aY,beq_iff_eq,hne,false_or,hun,kz,fe,decide_eq_true_eq,hno]at this;exact this
    have T:i∈dS .any all.toArray listed:=by simpa using J
    rcases dB H o rfl with⟨hw,hA⟩|⟨hw,hB⟩
    .obtain⟨hd,v,r,hv⟩:=oD (ty:=o.type) hA;refine ig hS hi' (kD hsel) O hb2 rest.size listed _ w hfr hb1 T (v:=v) ?_ ?_
     .refine .inl ⟨hw,fun w' hr'=>⟨hd,?_⟩⟩;rw[dY,bW,hv w'];exact⟨⟨rfl,rfl⟩,Rest.refl _⟩
     .rw[ay];exact bf hS hsel rest _ _ d w hr f r
    .refine ig hS hi' (kD hsel) O hb2 rest.size listed _ w hfr hb1 T (v:=undef) (.inr ⟨hw,rfl⟩) ?_;rw[ay];exact bf hS hsel rest _ _ d w hr f hB
 | .one i rest,listed,e,d,w,hr,f,H=>by
   intro w1 p E;simp only[okT,aY,decide_eq_true_eq,fw]at f;obtain⟨⟨hG,h1⟩,f⟩:=f;rw[h1];refine⟨fun h=>by simp at h,fun q F=> ?_⟩;have F:q=i:=by simpa using F
   subst F;refine dU (Kx:=fun e h''=>ah P R all rest k e d h'') (fC (H _ E) fun e h r=>⟨fun hh=>(by rw[hG]at hh;cases hh),r⟩) fun e2 U g Q=> ?_
   exact bf hS hsel rest _ _ d U (hr.trans (p.trans g)) f Q
 | .keep i rest,listed,e,d,w,hr,f,H=>by
   intro w1 p E;simp only[okT,aY,decide_eq_true_eq]at f;obtain⟨h1,f⟩:=f;rw[h1];refine⟨fun h=>by simp at h,fun q F=> ?_⟩;have F:q=i:=by simpa using F
   subst F;refine dU (Kx:=fun e h''=>ah P R all rest k e d h'') (fC (H _ E) fun e h r=>⟨fun _=>r.1,r.2⟩) fun e2 U g Q=> ?_
   exact bf hS hsel rest _ _ d U (hr.trans (p.trans g)) f Q
 | .fork x y a b,listed,e,d,w,hr,f,H=>by
   intro w1 p E;simp only[okT,aY,decide_eq_true_eq]at f;obtain⟨h1,I,o1,o2⟩:=f;obtain⟨A,B⟩:=H _ E;rw[h1];refine⟨fun h=>by simp at h,fun q F=> ?_⟩;have F:q=x\/q=y:=by simpa using F
   rcases F with rfl|rfl
   .refine dU (Kx:=fun e h''=>ah P R all a k e d h'') (fC A fun e h r=>⟨fun _=>r.1,r.2⟩) fun e2 U g Q=> ?_
    exact bf hS hsel a _ _ d U (hr.trans (p.trans g)) o1 Q
   .refine dU (Kx:=fun e h''=>ah P R all b k e d h'') (fC B fun e h r=>⟨fun _=>r.1,r.2⟩) fun e2 U g Q=> ?_
    have:=bf (w0:=w0) hS hsel b _ _ d U (hr.trans (p.trans g)) o2 Q;rw[<-I]at this;exact this
 | .yo x y u v a b,listed,e,d,w,hr,f,H=>by
   intro w1 p E;simp only[okT,aY,decide_eq_true_eq,ed,fw]at f;obtain⟨gx,gy,h1,I,o1,o2⟩:=f;obtain⟨A,B⟩:=H _ E;rw[h1];refine⟨fun h=>by simp at h,fun q F=> ?_⟩;have F:q=x\/q=y:=by simpa using F
   rcases F with rfl|rfl
   .refine dU (Kx:=fun e h''=>ah P R all a k e d h'') (fC A fun e h r=>⟨fun hh=>r.1 (gx.resolve_right (by rw[hh];decide)),r.2⟩) fun e2 U g Q=> ?_
    exact bf hS hsel a _ _ d U (hr.trans (p.trans g)) o1 Q
   .refine dU (Kx:=fun e h''=>ah P R all b k e d h'') (fC B fun e h r=>⟨fun hh=>r.1 (gy.resolve_right (by rw[hh];decide)),r.2⟩) fun e2 U g Q=> ?_
    have:=bf (w0:=w0) hS hsel b _ _ d U (hr.trans (p.trans g)) o2 Q;rw[<-I]at this;exact this
 | .lu x y z u v t a b c,listed,e,d,w,hr,f,H=>by
   intro w1 p E;simp only[okT,aY,decide_eq_true_eq,ed,fw]at f;obtain⟨gx,gy,gz,h1,I,h3,o1,o2,o3⟩:=f;obtain⟨A,B,C⟩:=H _ E;rw[h1];refine⟨fun h=>by simp at h,fun q F=> ?_⟩;have F:q=x\/q=y\/q=z:=by simpa using F
   rcases F with rfl|rfl|rfl
   .refine dU (Kx:=fun e h''=>ah P R all a k e d h'') (fC A fun e h r=>⟨fun hh=>r.1 (gx.resolve_right (by rw[hh];decide)),r.2⟩) fun e2 U g Q=> ?_
    exact bf hS hsel a _ _ d U (hr.trans (p.trans g)) o1 Q
   .refine dU (Kx:=fun e h''=>ah P R all b k e d h'') (fC B fun e h r=>⟨fun hh=>r.1 (gy.resolve_right (by rw[hh];decide)),r.2⟩) fun e2 U g Q=> ?_
    have:=bf (w0:=w0) hS hsel b _ _ d U (hr.trans (p.trans g)) o2 Q;rw[<-I]at this;exact this
   .refine dU (Kx:=fun e h''=>ah P R all c k e d h'') (fC C fun e h r=>⟨fun hh=>r.1 (gz.resolve_right (by rw[hh];decide)),r.2⟩) fun e2 U g Q=> ?_
    have:=bf (w0:=w0) hS hsel c _ _ d U (hr.trans (p.trans g)) o3 Q;rw[<-h3]at this;exact this
theorem zB7 (hm:P.follows .mixedOrders=true)(hS:Sta R){id:Nat}{all:List Oper}{k:aj}{e:Env}{d:List Deferred}{h:Heap}(t:PT)
 (hsel:xW all.toArray=true) (hlen:t.size=all.length) (hok:okT t.G all t (Array.replicate all.length false)=true)
 (H:ah P R all t k e d h):WP l P (.region id all.toArray true) k e d h:=by
 unfold WP;intro w p;subst p;refine wpIn_region_any hm ?_;have g:=bf (w0:=w) (G:=t.G) hS hsel t _ e d {w with drawn:=w.drawn+1} ⟨rfl,rfl,rfl⟩ hok H;rw[hlen]at g;have j:=jc (l:=l) (Q':=fun x a f=>k x a.tmps.toList a.defers f.heap/\Rest w f) hS (fun a f o=>o) _ _ _ _ g;simpa using j
variable {all:List Oper}{rest:PT}{k:aj}{e:Env}{d:List Deferred}{h:Heap}{dst:Option Tmp}{op:Op}{ty:TypeId}{pos:String}{after:Array Edge}{i x y:Nat}{a b:PT}
def xV (P:Program)(R:Heap->Heap->Prop)(all:List Oper)(rest:PT)(k:aj)(dst:Option Tmp)(e:Env)(d:List Deferred):Value->Heap->Prop:=fun v h=>ah P R all rest k (aU e dst v) d h
theorem Wt {v:Value}:xV P R all rest k dst e d v h=ah P R all rest k (aU e dst v) d h:=eqi rfl
def stT (P:Program)(R:Heap->Heap->Prop)(o:Option Oper)(all:List Oper)(rest:PT)(k:aj)(e:Env)(d:List Deferred)(h:Heap):Prop:=
 match o with
 |some o=>ax o.guard all e (fun e=>dK P R o.op o.type e h (fun v h'=>xV P R all rest k o.dst e d v h')) (fun e=>ah P R all rest k (aU e o.dst undef) d h)
 |none=>False
theorem JQ:ah P R all (.quiet i rest) k e d h=stT P R all[i]? all rest k e d h:=by simp only[ah,stT,xV]
theorem QX:stT P R (some ⟨dst,op,ty,pos,after,none⟩) all rest k e d h=dK P R op ty e h (xV P R all rest k dst e d):=by simp only[stT,ax]
def Pj (P:Program)(R:Heap->Heap->Prop)(o:Option Oper)(all:List Oper)(rest:PT)(k:aj)(e:Env)(d:List Deferred)(h:Heap):Prop:=
 match o with
 |some o=>ax o.guard all e (fun e=>fK P o.op e h (fun v h'=>xV P R all rest k o.dst e d v h')) (fun e=>ah P R all rest k (aU e o.dst undef) d h)
 |none=>False
theorem Kb:ah P R all (.pure i rest) k e d h=Pj P R all[i]? all rest k e d h:=by simp only[ah,Pj,xV]
theorem LH:Pj P R (some ⟨dst,op,ty,pos,after,none⟩) all rest k e d h=fK P op e h (xV P R all rest k dst e d):=by simp only[Pj,ax]
theorem Q8 {K:Env->Heap->Prop}:stO P all (some ⟨dst,op,ty,pos,after,none⟩) e h K=opW P op ty e h (fun v h'=>K (aU e dst v) h'):=by simp only[stO,ax]
def gtT (P:Program)(R:Heap->Heap->Prop)(v:Value)(s:Tmp)(want:Bool)(op:Op)(ty:TypeId)(all:List Oper)(rest:PT)(k:aj)(dst:Option Tmp)(e:Env)(d:List Deferred)(h:Heap):Prop:=
 au v (fun b=>if b=want then dK P R op ty (e.set s (.bool b)) h (xV P R all rest k dst (e.set s (.bool b)) d)else ah P R all rest k (aU (e.set s (.bool b)) dst undef) d h) (ah P R all rest k (aU e dst undef) d h)
def Y5 (P:Program)(R:Heap->Heap->Prop)(s:Option Tmp)(want:Bool)(op:Op)(ty:TypeId)(all:List Oper)(rest:PT)(k:aj)(dst:Option Tmp)(e:Env)(d:List Deferred)(h:Heap):Prop:=
 match s with|some s=>gtT P R (e.getD s undef) s want op ty all rest k dst e d h|none=>ah P R all rest k (aU e dst undef) d h
theorem RN {j:Nat}{want:Bool}:stT P R (some ⟨dst,op,ty,pos,after,some (j,want)⟩) all rest k e d h=Y5 P R (fQ all j) want op ty all rest k dst e d h:=by
 simp only[stT,ax,Y5];cases fQ all j<;>rfl
theorem Q4 {s:Tmp}{want:Bool}:Y5 P R (some s) want op ty all rest k dst e d h=gtT P R (e.getD s undef) s want op ty all rest k dst e d h:=eqi rfl
theorem Y8 {s:Tmp}:gtT P R (.bool true) s true op ty all rest k dst e d h=dK P R op ty (e.set s (.bool true)) h (xV P R all rest k dst (e.set s (.bool true)) d):=by simp[gtT,au]
theorem Xy {s:Tmp}:gtT P R (.bool false) s false op ty all rest k dst e d h=dK P R op ty (e.set s (.bool false)) h (xV P R all rest k dst (e.set s (.bool false)) d):=by simp[gtT,au]
theorem Y6 {s:Tmp}:gtT P R (.bool true) s false op ty all rest k dst e d h=ah P R all rest k (aU (e.set s (.bool true)) dst undef) d h:=by simp[gtT,au]
theorem Ya {s:Tmp}:gtT P R (.bool false) s true op ty all rest k dst e d h=ah P R all rest k (aU (e.set s (.bool false)) dst undef) d h:=by simp[gtT,au]
theorem QD {s:Tmp}{w:Bool}{vs:Array Value}:gtT P R (.tuple vs) s w op ty all rest k dst e d h=ah P R all rest k (aU e dst undef) d h:=by simp[gtT,au]
def gtP (P:Program)(R:Heap->Heap->Prop)(v:Value)(s:Tmp)(want:Bool)(op:Op)(all:List Oper)(rest:PT)(k:aj)(dst:Option Tmp)(e:Env)(d:List Deferred)(h:Heap):Prop:=
 au v (fun b=>if b=want then fK P op (e.set s (.bool b)) h (xV P R all rest k dst (e.set s (.bool b)) d)else ah P R all rest k (aU (e.set s (.bool b)) dst undef) d h) (ah P R all rest k (aU e dst undef) d h)
def YH (P:Program)(R:Heap->Heap->Prop)(s:Option Tmp)(want:Bool)(op:Op)(all:List Oper)(rest:PT)(k:aj)(dst:Option Tmp)(e:Env)(d:List Deferred)(h:Heap):Prop:=
 match s with|some s=>gtP P R (e.getD s undef) s want op all rest k dst e d h|none=>ah P R all rest k (aU e dst undef) d h
theorem Kk {j:Nat}{want:Bool}:Pj P R (some ⟨dst,op,ty,pos,after,some (j,want)⟩) all rest k e d h=YH P R (fQ all j) want op all rest k dst e d h:=by
 simp only[Pj,ax,YH];cases fQ all j<;>rfl
theorem Ps {s:Tmp}{want:Bool}:YH P R (some s) want op all rest k dst e d h=gtP P R (e.getD s undef) s want op all rest k dst e d h:=eqi rfl
theorem Z9 {s:Tmp}:gtP P R (.bool true) s true op all rest k dst e d h=fK P op (e.set s (.bool true)) h (xV P R all rest k dst (e.set s (.bool true)) d):=by simp[gtP,au]
theorem ZZ {s:Tmp}:gtP P R (.bool false) s false op all rest k dst e d h=fK P op (e.set s (.bool false)) h (xV P R all rest k dst (e.set s (.bool false)) d):=by simp[gtP,au]
theorem ZR {s:Tmp}:gtP P R (.bool true) s false op all rest k dst e d h=ah P R all rest k (aU (e.set s (.bool true)) dst undef) d h:=by simp[gtP,au]
theorem ZC {s:Tmp}:gtP P R (.bool false) s true op all rest k dst e d h=ah P R all rest k (aU (e.set s (.bool false)) dst undef) d h:=by simp[gtP,au]
theorem Q7 {s:Tmp}{w:Bool}{vs:Array Value}:gtP P R (.tuple vs) s w op all rest k dst e d h=ah P R all rest k (aU e dst undef) d h:=by simp[gtP,au]
def gtO (P:Program)(v:Value)(s:Tmp)(want:Bool)(op:Op)(ty:TypeId)(dst:Option Tmp)(e:Env)(h:Heap)(K:Env->Heap->Prop):Prop:=
 au v (fun b=>if b=want then opW P op ty (e.set s (.bool b)) h (fun v h'=>K (aU (e.set s (.bool b)) dst v) h')else K (aU (e.set s (.bool b)) dst undef) h) (K (aU e dst undef) h)
def YI (P:Program)(s:Option Tmp)(want:Bool)(op:Op)(ty:TypeId)(dst:Option Tmp)(e:Env)(h:Heap)(K:Env->Heap->Prop):Prop:=
 match s with|some s=>gtO P (e.getD s undef) s want op ty dst e h K|none=>K (aU e dst undef) h
theorem Qn {j:Nat}{want:Bool}{K:Env->Heap->Prop}:stO P all (some ⟨dst,op,ty,pos,after,some (j,want)⟩) e h K=YI P (fQ all j) want op ty dst e h K:=by
 simp only[stO,ax,YI];cases fQ all j<;>rfl
theorem Qg {s:Tmp}{want:Bool}{K:Env->Heap->Prop}:YI P (some s) want op ty dst e h K=gtO P (e.getD s undef) s want op ty dst e h K:=eqi rfl
theorem YR {s:Tmp}{K:Env->Heap->Prop}:gtO P (.bool true) s true op ty dst e h K=opW P op ty (e.set s (.bool true)) h (fun v h'=>K (aU (e.set s (.bool true)) dst v) h'):=by simp[gtO,au]
theorem ZU {s:Tmp}{K:Env->Heap->Prop}:gtO P (.bool false) s false op ty dst e h K=opW P op ty (e.set s (.bool false)) h (fun v h'=>K (aU (e.set s (.bool false)) dst v) h'):=by simp[gtO,au]
theorem Yo {s:Tmp}{K:Env->Heap->Prop}:gtO P (.bool true) s false op ty dst e h K=K (aU (e.set s (.bool true)) dst undef) h:=by simp[gtO,au]
theorem Z5 {s:Tmp}{K:Env->Heap->Prop}:gtO P (.bool false) s true op ty dst e h K=K (aU (e.set s (.bool false)) dst undef) h:=by simp[gtO,au]
theorem QC {s:Tmp}{w:Bool}{vs:Array Value}{K:Env->Heap->Prop}:gtO P (.tuple vs) s w op ty dst e h K=K (aU e dst undef) h:=by simp[gtO,au]
def treeS:=aD (aD (aD @JQ @Kb) (aD (aD @QX @LH) (aD (aD @RN @Kk) (aD @Q8 @Qn))))
 (aD (aD (aD @Q4 @Ps) (aD @Qg @Wt)) (aD (aD (aD @Y8 @Xy) (aD @Y6 (aD @Ya @QD))) (aD (aD (aD @Z9 @ZZ) (aD @ZR (aD @ZC @Q7))) (aD (aD @YR @ZU) (aD @Yo (aD @Z5 @QC))))))
theorem zAN (H:∀h',R h h'->k .normal e d h'):ah P R all .fin k e d h:=H
theorem Zk (H:∀h',R h h'->stO P all all[i]? e h' (fun e h''=>ah P R all rest k e d h'')):ah P R all (.one i rest) k e d h:=H
theorem YD (H:∀h',R h h'->stO P all all[i]? e h' (fun e h''=>R h' h''/\ah P R all rest k e d h'')):ah P R all (.keep i rest) k e d h:=H
theorem Xh {u v:Bool}(H:∀h',R h h'->stO P all all[x]? e h' (fun e h''=>(u=true->R h' h'')/\ah P R all a k e d h'')/\stO P all all[y]? e h' (fun e h''=>(v=true->R h' h'')/\ah P R all b k e d h'')):ah P R all (.yo x y u v a b) k e d h:=H
theorem eqh {p:Heap->Prop}(H:p h):∀h',EqH h h'->p h':=fun h' f=>by rw[show h'=h from f];exact H
theorem ZX (H:k .normal e d h):ah P EqH all .fin k e d h:=eqh H
theorem Yf (H:stO P all all[i]? e h (fun e h''=>ah P EqH all rest k e d h'')):ah P EqH all (.one i rest) k e d h:=eqh (p:=fun h=>stO P all all[i]? e h (fun e h''=>ah P EqH all rest k e d h'')) H
theorem Vm {u v:Bool}(A:stO P all all[x]? e h (fun e h''=>(u=true->EqH h h'')/\ah P EqH all a k e d h''))(B:stO P all all[y]? e h (fun e h''=>(v=true->EqH h h'')/\ah P EqH all b k e d h'')):ah P EqH all (.yo x y u v a b) k e d h:=
 eqh (p:=fun h=>stO P all all[x]? e h (fun e h''=>(u=true->EqH h h'')/\ah P EqH all a k e d h'')/\stO P all all[y]? e h (fun e h''=>(v=true->EqH h h'')/\ah P EqH all b k e d h'')) ⟨A,B⟩
end tree
section fresh
variable {P:Program}{h:Heap}{er:Env}{ty:TypeId}
end fresh
end Go.Eng
namespace Go.Proofs.YtejmkibjpaoahaaGreatDoor.Mo
open Go Go.Proofs Go.Eng Go.Run Tab
section
variable {K:Value->Eng.Heap->Prop}{P:Program}{el:TypeId}{er:Eng.Env}{h:Eng.Heap}{s:Nat}{t ty:TypeId}{z:Value}
set_option maxHeartbeats 1000000
def zCM:=(aD (aD (aD @zON @zGh) (aD @zNL @zOz)) (aD (aD @zGB @zQa) (aD @zHt (aD @zKX @Tryz.underlying171))))
def zDH:=(aD (aD (aD (aD @zOO @zGI) (aD @zD2 (aD @zK3 @zKC))) (aD (aD @zEs (aD @zFw @zFx)) (aD @zLx (aD @zLy @zLz)))) (aD (aD (aD @zPA (aD @zGM @zDX)) (aD @zHe (aD @zPM @zQb))) (aD (aD @zJP (aD @sz3 @zLO)) (aD @zKX (aD @zKY @Tryz.underlying22)))))
theorem zJ0 {n:Nat}(hu:P.underlying t=some (.array n el))(hi:(P.info? el).isSome=true)(hs:szT P el=s)(hz:dJ P t=some z){xs:Array (Nat×Operand)}{r:List Value}(hf:jK (fun i=>some (i*s,s)) z.cells.toList (xs.map fun(i,x)=>(i,ev er x)).toList=some r)(H:K (.agg r.toArray) h):aI P (.build t xs) ty er h K:=by
 obtain⟨o,f⟩:=Option.isSome_iff_exists.1 hi;have g:o.size=s:=by simpa[szT,f]using hs
 have p:=vL _ _ _ hf;refine aK rfl _ H fun w _=> ?_
 have j:(zeroValue t).run P w= .ok z w:=by
  unfold dJ at hz;cases hi:P.info? t with
  |none=>simp[hi]at hz
  |some i=>simp only[hi,Option.bind_some]at hz;simp[zeroValue,typeInfo,hi,hz]
 simp only[execOp,Instr.build,Sem.run_bind,j,Result.andThen_ok,run_underlying hu];simp only[Array.toList_map]at p;simp[sizeOf,typeInfo,f,g,p]
theorem zJg {n:Nat}(hu:P.underlying t=some (.array n el))(hi:(P.info? el).isSome=true)(hs:szT P el=s)(hz:dJ P t=some z){xs:Array (Nat×Operand)}{r:List Value}(hf:jK (fun i=>some (i*s,s)) z.cells.toList (xs.map fun(i,x)=>(i,ev er x)).toList=some r)(H:K (.agg r.toArray) h):iP P EqH (.build t xs) ty er h K:=by
 unfold iP;exact⟨_,fun h' e=>by have e:h'=h:=e;subst e;exact zJ0 hu hi hs hz hf ⟨rfl,rfl⟩,H⟩
theorem zPN:jh aS 171=false:=by kernel_rfl
theorem zKS (g b S M:Nat)(a:Option Addr)(n c:Nat)(ws:List Wn)(i:Nat)(d:Int)(h:Eng.Heap)(hg:zFR h g b S M a n c)(hr:Row h a (wsV ws))(hn:n=ws.length)(hi:i<ws.length):
 ak aS 96 #[.pointer (some ⟨g,0,none⟩),.int .i64 i,.int .i64 d] h (fun v h'=>v= .agg #[.int .i64 0,.int .i64 (wAt ws i).s,.int .i64 d,.int .i64 1,.int .i64 (wAt ws i).m,.int .i64 d]/\Ext h h'):=by
 unfold zFR at hg
 (refine Rm Tryz.func96 rfl zQO ?_;simp only[Tryz.ntmps96,Tryz.results96,coreS,U1,splice,aC,af,seval,zDH])
 have o:¬(g=h.size):=by have:=bA hg;omega
 have f:=hr.push (.cells #[.int .i64 0,.int .i64 0,.int .i64 0,.int .i64 0,.int .i64 0,.int .i64 0] 171);have A:=faR hr hi;have p:=zGo f hi;have u:=zFs f hi;have j:=zEH hr hi;refine zB9 (by kernel_rfl) zBp [(0,0),(1,0),(2,0),(3,0),(4,0),(5,0),(6,0),(7,0),(8,0),(9,0),(10,0),(11,0),(12,0),(13,0),(14,0),(15,0),(16,0),(17,0),(18,0),(19,0),(20,0),(21,0),(22,0),(23,1)] (by kernel_rfl) rfl (by kernel_rfl) ?_;simp only[o,hg,if_false,A,p,u,Ye,coreS,U1,splice,aC,af,seval,drawS,zDH];refine⟨⟨by omega,by omega⟩,j,⟨by omega,by omega⟩,j,?_⟩;simp only[zPN,zBW];refine zJg sw zGB zHt zKY (r:=[.int .i64 0,.int .i64 (wAt ws i).s,.int .i64 d,.int .i64 1,.int .i64 (wAt ws i).m,.int .i64 d]) (by simp[jK,coreS,U1,splice,aC,af,seval,drawS,zDH]) ?_;simp only[Ye,coreS,U1,splice,aC,af,seval,drawS,zDH];exact((Ext.refl h).push _)
abbrev Sk:=Nat×Nat×Nat
def kvS (k:Sk):Value:= .agg #[.int .i64 (k.1:Nat),.int .i64 (k.2.1:Nat),.int .i64 (k.2.2:Nat)]
theorem zKI:Keys aS 170 kvS:=by
 refine Keys.flat (ki:=(Pt.pr.ty 170).getD ⟨0,0,.any,.other,[]⟩) (kf:=fun p=> .agg [.int .i64 (p.1:Nat),.int .i64 (p.2.1:Nat),.int .i64 (p.2.2:Nat)]) (by rw[Tryz.underlying170]) (Pt.ok.tf (by kernel_rfl)) (fun p=> ?_) (fun p q=> ?_)
 .simp only[VR];exact⟨_,rfl,by simpa[Eng.ints]using FP (ι:=fun _=>none) [(p.1:Int),(p.2.1:Int),(p.2.2:Int)]⟩
 .have g:=EP [(p.1:Int),(p.2.1:Int),(p.2.2:Int)] [(q.1:Int),(q.2.1:Int),(q.2.2:Int)] rfl;have j:decide ([(p.1:Int),(p.2.1:Int),(p.2.2:Int)]=[(q.1:Int),(q.2.1:Int),(q.2.2:Int)])=decide (p=q):=by
   rw[decide_eq_decide];obtain⟨a,b,c⟩:=p;obtain⟨d,e,f⟩:=q;simp;omega
  rw[j]at g;exact g
theorem zE2 {cs:Array Value}{q:IntKind}{n:Int}{m:Nat}{F:Prop}:Ct (.agg cs) (.int q n) (some (.array m el)) h K F=F:=by unfold Ct;rfl
theorem zEc {len:Nat}(hu:P.underlying t=some (.array len el))(ha:zF P el=some true)(hi:(P.info? el).isSome=true)(hs:szT P el=s){x i:Operand}{cs:List Value}{j:Nat}(hx:ev er x= .agg cs.toArray)(hj:ev er i= .int .i64 j)(hl:j<len)(H:K (.agg ((cs.drop (j*s)).take s).toArray) h):aI P (.index t x i) ty er h K:=by
 obtain⟨g,f⟩:=Option.isSome_iff_exists.1 hi;have o:g.size=s:=by simpa[szT,f]using hs
 obtain⟨v,p,r⟩:=Ar (P:=P) (t:=el) (cs:=cs.toArray) (off:=j*g.size) (h:=h) (K:=fun v _=>v= .agg ((cs.drop (j*s)).take s).toArray) (by
  simp only[nT,ha,hi,o,hs,dn,true_and])
 subst p;refine aK rfl _ H fun w _=> ?_
 have u:(0:Int)<=(j:Int)/\(j:Int)<len:=⟨by omega,by omega⟩;simp[execOp,Instr.index,hx,hj,asIntOf,run_underlying hu,u,sizeOf,typeInfo,f,r];intro A;omega
theorem zJB {u kt vt:TypeId}{α:Type}[DecidableEq α]{kv:α->Value}(hu:P.underlying u=some (.map kt vt))(hz:dJ P vt=some z)(K:Keys P kt kv){b c:Nat}{es:List (α×Value×Nat)}(M:jU kv h b es c){a:α}{ok:Bool}{x k:Operand}{Q:Value->Eng.Heap->Prop}(hx:ev er x= .map (some b))(hk:ev er k=kv a)(H:Q (if ok then .tuple #[(fZ a es).getD z,.bool (fZ a es).isSome]else(fZ a es).getD z) h):iP P EqH (.lookup u x k ok) ty er h Q:=by
 unfold iP;refine⟨_,fun h' e=> ?_,H⟩;have e:h'=h:=e;subst e;exact zAU hu hz K M hx hk ⟨rfl,rfl⟩
def held (sh mo:Nat->Nat)(L:List (Nat×Nat))(k:Sk):Bool:=L.any fun x=>k==(0,sh x.1,x.2)||k==(1,mo x.1,x.2)
structure zHz (sh mo:Nat->Nat)(es:List (Sk×Value×Nat))(L:List (Nat×Nat)):Prop where
 nd:(es.map (·.1)).Nodup
 get:∀k,(fZ k es).isSome=held sh mo L k
def fits (sh mo:Nat->Nat)(L:List (Nat×Nat))(i d:Nat):Bool:= !held sh mo L (0,sh i,d)&& !held sh mo L (1,mo i,d)
theorem zHz.nil {sh mo:Nat->Nat}:zHz sh mo [] []:=⟨BB,fun k=>rfl⟩
theorem zH9 {k:Sk}{es:List (Sk×Value×Nat)}(h:(fZ k es).isSome=false):fZ k es=none:=by simpa using h
theorem zHz.add {sh mo:Nat->Nat}{es:List (Sk×Value×Nat)}{L:List (Nat×Nat)}(H:zHz sh mo es L)(i d:Nat)(v:Value)(c c':Nat):zHz sh mo (fF (1,mo i,d) v c' (fF (0,sh i,d) v c es)) (L++[(i,d)]):=by
 refine⟨Zg (Zg H.nd),fun k=> ?_⟩;rw[UD,UD];have:=H.get k;unfold held at this ⊢;rw[List.any_append,<-this];by_cases g:k=(1,mo i,d)
 .simp[g]
 by_cases f:k=(0,sh i,d)
 .rw[if_neg g,if_pos f];simp[f]
 .rw[if_neg g,if_neg f];simp[f,g]
theorem zOv (g b S M:Nat)(a:Option Addr)(n c:Nat)(ws:List Wn)(i d:Nat)(es:List (Sk×Value×Nat))(c0:Nat)(L:List (Nat×Nat))(h:Eng.Heap)(hg:zFR h g b S M a n c)(hr:Row h a (wsV ws))(hn:n=ws.length)(V:Vb S M ws)(hi:i<ws.length)(Mp:jU kvS h b es c0)(H:zHz (shN ws) (moN ws) es L):
 ak aS 35 #[.pointer (some ⟨g,0,none⟩),.int .i64 i,.int .i64 d] h (fun v h'=>v= .bool (fits (shN ws) (moN ws) L i d)/\Chg h h' b/\∃es' c',jU kvS h' b es' c'/\zHz (shN ws) (moN ws) es' (if fits (shN ws) (moN ws) L i d then L++[(i,d)]else L)):=by
 have F:g≠b:=fun e=>by have h1:=Mp.obj;unfold zFR at hg;rw[e,h1]at hg;cases hg
 have hs:=(V.s hi).1;have hm:=(V.m hi).1
 (refine Rm Tryz.func35 rfl zPr ?_;simp only[Tryz.ntmps35,Tryz.results35,coreS,U1,splice,aC,af,seval,zCM])
 refine ak.mono (zKS g b S M a n c ws i d h hg hr hn hi) ?_;rintro v h1 ⟨rfl,x1⟩;rw[hs,hm];simp only[coreS,aC,af,seval,zCM];refine zAi [6,8,9,10,17,18,19,20,21,22,23,24,25,26,27,28,29,30] (fun e h'=>Ext h h'/\∃j:Nat,j<=2/\e 17= .int .i64 j/\(0<j->fZ (0,shN ws i,d) es=none)/\(1<j->fZ (1,moN ws i,d) es=none)) (fun e _=>match e 17 with| .int _ q=>2-q.toNat|_=>0) ⟨x1,0,by omega,rfl,by omega,by omega⟩ ?_;rintro e h' ⟨x,j,hj,f,I,hn1⟩;have o:h'[g]? =some (.cells #[.int .i64 S,.int .i64 M,.slice a n c,.map (some b)] 166):=x.get hg;have u:=Mp.ext x;have rnd:∀(k:Sk) (cs:List Value),((cs=[.int .i64 0,.int .i64 (shN ws i:Nat),.int .i64 (d:Nat)]/\k=(0,shN ws i,d))\/(cs=[.int .i64 1,.int .i64 (moN ws i:Nat),.int .i64 (d:Nat)]/\k=(1,moN ws i,d)))->Value.agg cs.toArray=kvS k:=by
  rintro k cs (⟨rfl,rfl⟩|⟨rfl,rfl⟩)<;>rfl
 by_cases Z:j=0
 .subst Z;have f:e 17= .int .i64 0:=f;simp only[f,zE2,show((0:Int)<2) by omega,decide_true,coreS,aC,af,seval,zCM];refine zEc (j:=0) sw zGh zGB zHt rfl rfl (by omega) ?_;simp only[gL,eD,U1,splice,coreS,U1,splice,aC,af,seval,zCM];have A:=bA o;have y:=x.push (.cells #[.int .i64 0,.int .i64 (shN ws i:Nat),.int .i64 (d:Nat)] 170);have p:¬(g=h'.size):=by omega
  refine zB9 (by kernel_rfl) zBp [(0,0),(1,0),(2,0),(3,0),(4,0),(5,0),(6,0),(7,0),(8,0),(9,0),(10,0)] (by kernel_rfl) rfl (by kernel_rfl) ?_;simp only[o,p,if_false,Ye,coreS,aC,af,seval,drawS,zCM];refine zJB wE zDf zKI (u.ext ((Ext.refl h').push _)) (a:=(0,shN ws i,d)) rfl rfl ?_;simp only[if_true,Ye,coreS,aC,af,seval,drawS,zCM];cases hq:(fZ (0,shN ws i,d) es).isSome with
  |true=>
   have E:fits (shN ws) (moN ws) L i d=false:=by unfold fits;rw[<-H.get,<-H.get,hq];simp
   simp only[E,coreS,aC,af,seval,zCM];exact⟨Chg.Sg y b,es,c0,Mp.ext y,by simpa using H⟩
  |false=>
   simp only[coreS,aC,af,seval,zCM];refine⟨by rw[zBS];omega,Zr (by kernel_rfl) ⟨y,1,by omega,rfl,fun _=>zH9 hq,fun hh=>absurd hh (by omega)⟩ ?_⟩;show 2-(0+1:Int).toNat<2-(0:Int).toNat;omega
 by_cases hj1:j=1
 .subst hj1;have f:e 17= .int .i64 1:=f;simp only[f,zE2,show((1:Int)<2) by omega,decide_true,coreS,aC,af,seval,zCM];refine zEc (j:=1) sw zGh zGB zHt rfl rfl (by omega) ?_;simp only[gL,eD,U1,splice,coreS,U1,splice,aC,af,seval,zCM];have A:=bA o;have y:=x.push (.cells #[.int .i64 1,.int .i64 (moN ws i:Nat),.int .i64 (d:Nat)] 170);have p:¬(g=h'.size):=by omega
  refine zB9 (by kernel_rfl) zBp [(0,0),(1,0),(2,0),(3,0),(4,0),(5,0),(6,0),(7,0),(8,0),(9,0),(10,0)] (by kernel_rfl) rfl (by kernel_rfl) ?_;simp only[o,p,if_false,Ye,coreS,aC,af,seval,drawS,zCM];refine zJB wE zDf zKI (u.ext ((Ext.refl h').push _)) (a:=(1,moN ws i,d)) rfl rfl ?_;simp only[if_true,Ye,coreS,aC,af,seval,drawS,zCM];cases hq:(fZ (1,moN ws i,d) es).isSome with
  |true=>
   have E:fits (shN ws) (moN ws) L i d=false:=by unfold fits;rw[<-H.get,<-H.get,hq];simp
   simp only[E,coreS,aC,af,seval,zCM];exact⟨Chg.Sg y b,es,c0,Mp.ext y,by simpa using H⟩
  |false=>
   simp only[coreS,aC,af,seval,zCM];refine⟨by rw[zBS];omega,Zr (by kernel_rfl) ⟨y,2,by omega,rfl,fun _=>I (by omega),fun _=>zH9 hq⟩ ?_⟩;show 2-(1+1:Int).toNat<2-(1:Int).toNat;omega
 obtain rfl:j=2:=by omega
 have f:e 17= .int .i64 2:=f;simp only[f,show¬((2:Int)<2) by omega,decide_false,coreS,aC,af,seval,zCM];have k0:=I (by omega);have k1:=hn1 (by omega);have E:fits (shN ws) (moN ws) L i d=true:=by unfold fits;rw[<-H.get,<-H.get,k0,k1];rfl
 rw[E];refine ak.mono (zKS g b S M a n c ws i d h' o (hr.ext x) hn hi) ?_;rintro v h2 ⟨rfl,O⟩;rw[hs,hm];simp only[coreS,aC,af,seval,zCM];have T:=u.ext O;have W:=O.get o;have y2:=x.trans O;clear x O o u Mp hg f rnd;refine zAi [12,35,36,37,38,39,40,41,42,43,44] (fun e h'=>Chg h h' b/\h'[g]? =some (.cells #[.int .i64 S,.int .i64 M,.slice a n c,.map (some b)] 166)/\((e 35= .int .i64 0/\jU kvS h' b es c0)\/(e 35= .int .i64 1/\∃C,jU kvS h' b (fF (0,shN ws i,d) (.int .i64 i) c0 es) C)\/(e 35= .int .i64 2/\∃C c2,jU kvS h' b (fF (1,moN ws i,d) (.int .i64 i) C (fF (0,shN ws i,d) (.int .i64 i) c0 es)) c2))) (fun e _=>match e 35 with| .int _ q=>2-q.toNat|_=>0) ⟨Chg.Sg y2 b,W,.inl ⟨rfl,T⟩⟩ ?_;rintro e N ⟨U,r,⟨f,B⟩|⟨f,C,B⟩|⟨f,C,c2,B⟩⟩
 .simp only[f,zE2,show((0:Int)<2) by omega,decide_true,coreS,aC,af,seval,zCM];refine zEc (j:=0) sw zGh zGB zHt rfl rfl (by omega) ?_;simp only[gL,eD,U1,splice,coreS,U1,splice,aC,af,seval,zCM];have A:=bA r;have p:¬(g=N.size):=by omega
  refine zB9 (by kernel_rfl) zBp [(0,0),(1,0),(2,0),(3,0),(4,0),(5,0),(6,1)] (by kernel_rfl) rfl (by kernel_rfl) ?_;simp only[r,p,if_false,Ye,coreS,aC,af,seval,drawS,zCM];refine zAR wE zKI (B.ext ((Ext.refl N).push _)) (a:=(0,shN ws i,d)) (v:= .int .i64 i) rfl rfl rfl fun h4 Q J=> ?_
  simp only[Ye,coreS,aC,af,seval,drawS,zCM];refine⟨by rw[zBS];omega,Zr (by kernel_rfl) ⟨(U.push _).upd J,J.get (Jy r) F,.inr (.inl ⟨rfl,_,Q⟩)⟩ ?_⟩;show 2-(0+1:Int).toNat<2-(0:Int).toNat;omega
 .simp only[f,zE2,show((1:Int)<2) by omega,decide_true,coreS,aC,af,seval,zCM];refine zEc (j:=1) sw zGh zGB zHt rfl rfl (by omega) ?_;simp only[gL,eD,U1,splice,coreS,U1,splice,aC,af,seval,zCM];have A:=bA r;have p:¬(g=N.size):=by omega
  refine zB9 (by kernel_rfl) zBp [(0,0),(1,0),(2,0),(3,0),(4,0),(5,0),(6,1)] (by kernel_rfl) rfl (by kernel_rfl) ?_;simp only[r,p,if_false,Ye,coreS,aC,af,seval,drawS,zCM];refine zAR wE zKI (B.ext ((Ext.refl N).push _)) (a:=(1,moN ws i,d)) (v:= .int .i64 i) rfl rfl rfl fun h4 Q J=> ?_
  simp only[Ye,coreS,aC,af,seval,drawS,zCM];refine⟨by rw[zBS];omega,Zr (by kernel_rfl) ⟨(U.push _).upd J,J.get (Jy r) F,.inr (.inr ⟨rfl,_,_,Q⟩)⟩ ?_⟩;show 2-(1+1:Int).toNat<2-(1:Int).toNat;omega
 .simp only[f,show¬((2:Int)<2) by omega,decide_false,coreS,aC,af,seval,zCM];exact⟨U,_,_,B,H.add i d _ _ _⟩
end
end Go.Proofs.YtejmkibjpaoahaaGreatDoor.Mo
namespace Go.Proofs
open Go.Shelf
def Tryz.zIw:Go.Shelf.Ren:=⟨fun|189=>98|125=>164|257=>163|128=>234|129=>235|294=>226|295=>227|296=>228|297=>229|298=>230|299=>231|216=>224|300=>232|301=>233|328=>309|329=>310|330=>311|331=>312|332=>313|215=>308|343=>381|n=>n,fun|28=>29|3=>3|46=>242|0=>0|51=>306|53=>308|4=>4|183=>300|182=>299|131=>173|5=>5|9=>9|218=>377|222=>381|228=>448|229=>449|n=>n,fun|n=>n⟩
theorem Tryz.zG6:Go.Proofs.Lays.n189 aS Tryz.zIw:={
 mixed:=by kernel_rfl
 f125:=Tryz.func164.trans (congrArg some (by kernel_rfl))
 f128:=Tryz.func234.trans (congrArg some (by kernel_rfl))
 f129:=Tryz.func235.trans (congrArg some (by kernel_rfl))
 f189:=Tryz.func98.trans (congrArg some (by kernel_rfl))
 f215:=Tryz.func308.trans (congrArg some (by kernel_rfl))
 f216:=Tryz.func224.trans (congrArg some (by kernel_rfl))
 f257:=Tryz.func163.trans (congrArg some (by kernel_rfl))
 f294:=Tryz.func226.trans (congrArg some (by kernel_rfl))
 f295:=Tryz.func227.trans (congrArg some (by kernel_rfl))
 f296:=Tryz.func228.trans (congrArg some (by kernel_rfl))
 f297:=Tryz.func229.trans (congrArg some (by kernel_rfl))
 f298:=Tryz.func230.trans (congrArg some (by kernel_rfl))
 f299:=Tryz.func231.trans (congrArg some (by kernel_rfl))
 f300:=Tryz.func232.trans (congrArg some (by kernel_rfl))
 f301:=Tryz.func233.trans (congrArg some (by kernel_rfl))
 f328:=Tryz.func309.trans (congrArg some (by kernel_rfl))
 f329:=Tryz.func310.trans (congrArg some (by kernel_rfl))
 f330:=Tryz.func311.trans (congrArg some (by kernel_rfl))
 f331:=Tryz.func312.trans (congrArg some (by kernel_rfl))
 f332:=Tryz.func313.trans (congrArg some (by kernel_rfl))
 f343:=Tryz.func381.trans (congrArg some (by kernel_rfl))
 t0:=IP
 a0:=Tryz.isAgg0
 z0:=Tryz.sizeOf0
 v0:=Ls
 t3:=pE
 a3:=Tryz.isAgg3
 z3:=Tryz.sizeOf3
 v3:=Lt
 t4:=IX
 a4:=Tryz.isAgg4
 z4:=Tryz.sizeOf4
 v4:=LA
 t5:=Tryz.underlying5
 a5:=Tryz.isAgg5
 z5:=Tryz.sizeOf5
 v5:=Tryz.zeroValue5
 t9:=Tryz.underlying9
 a9:=Tryz.isAgg9
 z9:=Tryz.sizeOf9
 v9:=Tryz.zeroValue9
 t28:=ib
 a28:=Tryz.isAgg29
 z28:=MC
 v28:=IY
 t46:=Tryz.underlying242
 a46:=Tryz.isAgg242
 z46:=Tryz.sizeOf242
 v46:=Tryz.zeroValue242
 t51:=Tryz.underlying306
 a51:=Tryz.isAgg306
 z51:=Tryz.sizeOf306
 v51:=Tryz.zeroValue306
 t53:=Tryz.underlying308
 a53:=Tryz.isAgg308
 z53:=Tryz.sizeOf308
 v53:=Tryz.zeroValue308
 t131:=Tryz.underlying173
 a131:=Tryz.isAgg173
 z131:=Tryz.sizeOf173
 v131:=Tryz.zeroValue173
 t182:=Tryz.underlying299
 a182:=Tryz.isAgg299
 z182:=Tryz.sizeOf299
 v182:=Tryz.zeroValue299
 t183:=Tryz.underlying300
 a183:=Tryz.isAgg300
 z183:=Tryz.sizeOf300
 v183:=Tryz.zeroValue300
 t218:=Tryz.underlying377
 a218:=Tryz.isAgg377
 z218:=Tryz.sizeOf377
 v218:=Tryz.zeroValue377
 t222:=Tryz.underlying381
 a222:=Tryz.isAgg381
 z222:=Tryz.sizeOf381
 v222:=Tryz.zeroValue381
 t228:=Tryz.underlying448
 a228:=Tryz.isAgg448
 z228:=Tryz.sizeOf448
 v228:=Tryz.zeroValue448
 t229:=Tryz.underlying449
 a229:=Tryz.isAgg449
 z229:=Tryz.sizeOf449
 v229:=Tryz.zeroValue449}
def Tryz.zJc:Go.Shelf.Ren:=⟨fun|20=>38|n=>n,fun|22=>29|3=>3|4=>4|0=>0|n=>n,fun|n=>n⟩
theorem Tryz.zMO:Go.Proofs.Lays2.n20 aS Tryz.zJc:={
 mixed:=by kernel_rfl
 f20:=Tryz.func38.trans (congrArg some (by kernel_rfl))
 t0:=IP
 a0:=Tryz.isAgg0
 z0:=Tryz.sizeOf0
 v0:=Ls
 t3:=pE
 a3:=Tryz.isAgg3
 z3:=Tryz.sizeOf3
 v3:=Lt
 t4:=IX
 a4:=Tryz.isAgg4
 z4:=Tryz.sizeOf4
 v4:=LA
 t22:=ib
 a22:=Tryz.isAgg29
 z22:=MC
 v22:=IY
 i3:=by kernel_rfl}
end Go.Proofs
namespace Go.Proofs.YtejmkibjpaoahaaGreatDoor.Mo
namespace MB
open Go.Lib in
theorem zGK (d:Array Int)(hs:∀a b,a<=b->b<d.size->d[a]! <=d[b]!):∀m,m<=d.size->(compactUpTo d m).Pairwise (·<·)/\∀x,x∈compactUpTo d m<->∃j,j<m/\d[j]! =x
 |0,_=>⟨lX,fun x=>⟨fun h=>absurd h kC,fun⟨j,h,_⟩=>by omega⟩⟩
 |m+1,h=>by
  obtain⟨u,r⟩:=zGK d hs m (by omega);rw[compactUpTo_succ];by_cases p:keeps d m=true
  .rw[if_pos p];refine⟨nY.2 ⟨u,by simp,fun a A b B=> ?_⟩,fun x=> ?_⟩
   .obtain⟨j,o,rfl⟩:=(r a).1 A;rw[bv.1 B];have C:m≠0:=by omega
    have E:d[m]! ≠d[m-1]! :=by
     have:=of_decide_eq_true p;exact this.resolve_left C
    have F:=hs j (m-1) (by omega) (by omega);have H:=hs (m-1) m (by omega) (by omega);omega
   .rw[cz,r,bv];constructor
    .rintro(⟨j,o,e⟩|e)
     .exact⟨j,by omega,e⟩
     .exact⟨m,by omega,e.symm⟩
    .rintro⟨j,o,e⟩;by_cases f:j=m
     .subst f;exact .inr e.symm
     .exact .inl ⟨j,by omega,e⟩
  .rw[if_neg p,bK];refine⟨u,fun x=> ?_⟩;rw[r];constructor
   .rintro⟨j,o,e⟩;exact⟨j,by omega,e⟩
   .rintro⟨j,o,e⟩;by_cases f:j=m
    .subst f;have g:¬(j=0\/d[j]! ≠d[j-1]!):=fun h=>p (decide_eq_true h)
     have I:j≠0:=fun e=>g (.inl e)
     have v:d[j]! =d[j-1]! :=sM.1 fun e=>g (.inr e)
     exact⟨j-1,by omega,v.symm.trans e⟩
    .exact⟨j,by omega,e⟩
theorem zIf {days:List Nat}{zs:List Int}(hp:zs.Perm (days.map fun x:Nat=>(x:Int)))(hs:zs.Pairwise (·<=·)):(sF zs).length=dif days:=by
 obtain⟨u,N,O,W⟩:=zJ6 days;have p:zs.toArray.size=zs.length:=by simp
 have f:∀j,j<zs.length->∃h:j<zs.length,zs.toArray[j]! =zs[j]:=fun j o=>⟨o,by simp[o]⟩
 obtain⟨v,A⟩:=zGK zs.toArray (fun a b Q r=>by
  rw[p]at r;obtain⟨I,J⟩:=f b r;obtain⟨F,H⟩:=f a (by omega);rw[H,J];by_cases e:a=b
  .subst e;omega
  .exact qM.1 hs a b F I (by omega)) zs.length (by rw[p];exact bi _)
 have A:∀x,x∈sF zs<->x∈zs:=fun x=>by
  show x∈Lib.compactUpTo zs.toArray zs.length<->_;rw[A];constructor
  .rintro⟨j,o,e⟩;obtain⟨h,B⟩:=f j o;rw[<-e,B];exact cZ h
  .intro E;obtain⟨j,o,e⟩:=uE E;obtain⟨h,B⟩:=f j o;exact⟨j,o,B.trans e⟩
 have g:∀x,x∈sF zs<->∃y,y∈days/\(y:Int)=x:=fun x=>by
  rw[A,hp.mem_iff,bz]
 have U:((sF zs).map Int.toNat).Nodup:=by
  rw[List.Nodup,rz];have v:(sF zs).Pairwise (·<·):=v;refine v.imp_of_mem fun{a b} C r T e=> ?_
  obtain⟨x,_,rfl⟩:=(g a).1 C;obtain⟨y,_,rfl⟩:=(g b).1 r;omega
 have:=same_length U N fun x=>by
  rw[O,bz];constructor
  .rintro⟨a,C,rfl⟩;obtain⟨y,V,rfl⟩:=(g a).1 C;exact V
  .intro E;exact⟨x,(g x).2 ⟨x,E,rfl⟩,rfl⟩
 rw[ek]at this;omega
theorem zIm {c:Nat->Nat}{a i j:Nat}(hj:j<=14)(h:∀x,x<j->∃k,k<i/\c k=(a+x)% 14):j<=i:=by
 have:=zD1 (l:=(bn j).map fun x=>(a+x)% 14) (m:=(bn i).map c) (zE6 pq fun x y f p o e=>by
  have:=aX.1 f;have:=aX.1 p;omega) (fun z r=>by
  obtain⟨x,f,rfl⟩:=bz.1 r;obtain⟨k,g,e⟩:=h x (aX.1 f);exact bz.2 ⟨k,aX.2 g,e⟩)
 simpa using this
end MB
end Go.Proofs.YtejmkibjpaoahaaGreatDoor.Mo
namespace Go.Proofs.YtejmkibjpaoahaaGreatDoor.Mo
open Go Go.Proofs Go.Eng Go.Run Tab Go.Sort
set_option maxHeartbeats 1000000
theorem zEb {w:World}{g:Nat}{xs:List Int}{tl:List Value}(hb:w.heap[g]? =some (.cells (Eng.ints xs++tl).toArray 3 (0,0))):Holds (tq .i64) w g 0 xs.toArray:=by
 intro j f;have f:j<xs.length:=by simpa using f
 refine⟨?_,?_⟩
 .simp only[World.cell?,hb,kY];rw[sK,eP (by rw[Eng.aR];exact f),Eng.Cn _ _ f];simp[lc,f]
 .simp[World.frozen?,hb]
theorem zFA {w:World}{g:Nat}{xs ys:List Int}{tl:List Value}(hb:w.heap[g]? =some (.cells (Eng.ints xs++tl).toArray 3 (0,0)))(hl:ys.length=xs.length):
 (putRow (tq .i64) w g 0 ys.toArray).heap[g]? =some (.cells (Eng.ints ys++tl).toArray 3 (0,0))/\Upd w.heap (putRow (tq .i64) w g 0 ys.toArray).heap g:=by
 have o:=bA hb;refine⟨?_,?_,?_⟩
 .simp only[putRow,mapBlock,pV,if_true,hb,Option.map_some,onCells];congr 2;refine Array.ext_getElem? fun k=> ?_
  simp only[putCells,Array.getElem?_mapIdx,sK,Nat.zero_le,true_and,kY,Nat.sub_zero,List.size_toArray];by_cases f:k<ys.length
  .rw[eP (by rw[Eng.aR];omega),eP (by rw[Eng.aR];omega),Eng.Cn _ _ (by omega),Eng.Cn _ _ f];simp[f,lc]
  .rw[lN (by rw[Eng.aR];omega),lN (by rw[Eng.aR];omega),Eng.aR,Eng.aR,hl];cases tl[k-xs.length]? with
   |none=>rfl
   |some v=>simp[f];omega
 .simp[putRow,mapBlock]
 .intro b j;simp only[putRow,mapBlock,pV];rw[if_neg (fun e=>j e.symm)]
theorem zEC {P:Program}{f:FuncId}{args:Array Value}{K:Value->Eng.Heap->Prop}{h:Eng.Heap}(hb:qA P f=true)(H:∀w:World,w.heap=h->Calls P f args w fun e w'=>∃v,e= .returned v/\K v w'.heap/\w'.os=w.os/\w'.tape=w.tape/\w'.output=w.output):ak P f args h K:=by
 unfold ak gP;refine⟨hb,fun w u=> ?_⟩;refine(H w u).mono fun e w' ⟨v,p,r,g,j,o⟩=>⟨v,p,r,g,j,o⟩
def srt (l:List Int):Prop:=l.Pairwise (·<=·)
theorem zHN (xs:List Int):(xs.mergeSort fun x y=>decide (x<=y)).Perm xs/\srt (xs.mergeSort fun x y=>decide (x<=y)):=by
 refine⟨List.mergeSort_perm _ _,?_⟩;have:=List.pairwise_mergeSort (le:=fun x y:Int=>decide (x<=y)) (fun a b c f g=>by simp at *;omega) (fun a b=>by simp;omega) xs;exact this.imp fun h=>by simpa using h
theorem zPZ (g c n:Nat)(xs:List Int)(tl:List Value)(h:Eng.Heap)(hb:h[g]? =some (.cells (Eng.ints xs++tl).toArray 3))(hn:n=xs.length)(hl:n<=1000000):
 ak aS 98 #[.slice (some ⟨g,0,none⟩) n c] h (fun v h'=>v= .tuple #[]/\(h.size<=h'.size/\∀b,b<h.size->b≠g->h'[b]? =h[b]?)/\∃ys,ys.Perm xs/\srt ys/\h'[g]? =some (.cells (Eng.ints ys++tl).toArray 3)):=by
 subst hn;refine zEC (by kernel_rfl) fun w B=> ?_
 subst B;have u:=bA hb;refine(Any.slices_Sort_int Tryz.zG6 g 0 c xs w (zEb hb) u (by omega)).mono ?_;rintro e F ⟨rfl,n,r,rfl⟩;obtain⟨A,C⟩:=zHN xs;have j:(Go.Sort.ahead w n).heap[g]? =some (.cells (Eng.ints xs++tl).toArray 3 (0,0)):=hb;obtain⟨E,f⟩:=zFA (ys:=xs.mergeSort fun x y=>decide (x<=y)) j A.length_eq;refine⟨_,rfl,⟨rfl,⟨?_,fun b o p=> ?_⟩,_,A,C,?_⟩,rfl,rfl,rfl⟩
 .show w.heap.size<=((putRow _ _ _ _ _).heap++r).size;rw[Array.size_append,f.size];show w.heap.size<=w.heap.size+_;omega
 .show((putRow _ _ _ _ _).heap++r)[b]? =_;rw[yC (by rw[f.size];exact o),f.old b p];rfl
 .show((putRow _ _ _ _ _).heap++r)[g]? =_;rw[yC (by rw[f.size];exact u)];exact E
theorem zMh (a:Option Addr)(c:Nat)(h:Eng.Heap):ak aS 98 #[.slice a 0 c] h (fun v h'=>v= .tuple #[]/\h'=h):=by
 refine zEC (by kernel_rfl) fun w f=> ?_
 subst f;refine(Any.slices_Sort_int_none Tryz.zG6 a c w).mono ?_;rintro e g ⟨rfl,rfl⟩;exact⟨_,rfl,⟨rfl,rfl⟩,rfl,rfl,rfl⟩
theorem zLk (a:Option Addr)(c:Nat)(h:Eng.Heap):ak aS 38 #[.slice a 0 c] h (fun v h'=>v= .slice a 0 c/\h'=h):=by
 refine zEC (by kernel_rfl) fun w f=> ?_
 subst f;refine(Any.slices_Compact_int_empty Tryz.zMO a c w).mono ?_;rintro e g ⟨rfl,rfl⟩;exact⟨_,rfl,⟨rfl,rfl⟩,rfl,rfl,rfl⟩
theorem zKa (g c n:Nat)(xs:List Int)(tl:List Value)(h:Eng.Heap)(hb:h[g]? =some (.cells (Eng.ints xs++tl).toArray 3))(hn:n=xs.length)(hc:n<=c)(hl:n<=1000000):
 ak aS 38 #[.slice (some ⟨g,0,none⟩) n c] h (fun v h'=>v= .slice (some ⟨g,0,none⟩) (sF xs).length c/\Upd h h' g):=by
 subst hn;refine zEC (by kernel_rfl) fun w j=> ?_
 subst j;refine(Any.slices_Compact_int Tryz.zMO g 0 c xs w (zEb hb) (by omega) hc).mono ?_;rintro e o ⟨rfl,n,rfl⟩;refine⟨_,rfl,⟨rfl,⟨?_,?_⟩⟩,rfl,rfl,rfl⟩
 .simp[putRow,mapBlock,Go.Sort.ahead]
 .intro b f;simp only[putRow,mapBlock,pV];rw[if_neg (fun e=>f e.symm)];rfl
theorem zJo (m n c:Nat)(a:Option Addr)(xs:List Int)(h:Eng.Heap)(O:eG m h 3 a n c xs)(hl:n<=1000000):
 ak aS 98 #[.slice a n c] h (fun v h'=>v= .tuple #[]/\(h.size<=h'.size/\∀b,b<h.size->b<m->h'[b]? =h[b]?)/\∃ys,ys.Perm xs/\srt ys/\eG m h' 3 a n c ys):=by
 have j:=O.ln;by_cases p:0<n
 .obtain⟨g,H,rfl,B,u,J,A,_⟩:=O.block p;refine ak.mono (zPZ g c n xs H h u j hl) ?_;rintro v h' ⟨rfl,⟨E,F⟩,ys,o,C,f⟩;have e:=o.length_eq;refine⟨rfl,⟨E,fun b r I=>F b r (by omega)⟩,ys,o,C,?_⟩;have:=eG.of_block (xs:=ys) (cap:=c) B f (by omega) (by omega);rwa[show ys.length=n by omega]at this
 .obtain rfl:n=0:=by omega
  refine ak.mono (zMh a c h) ?_;rintro v h' ⟨rfl,rfl⟩;obtain rfl:xs=[]:=List.length_eq_zero_iff.1 j.symm;exact⟨rfl,⟨bi _,fun b _ _=>rfl⟩,[],List.Perm.refl _,lX,O⟩
end Go.Proofs.YtejmkibjpaoahaaGreatDoor.Mo
