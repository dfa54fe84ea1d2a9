/- Lemmas. No condition. -/
import Derived.Test.YtejmkibjpaoahaaGreatDoorV3
import Derived.ProofKit
import Derived.OpenShut
import Derived.Below
import Derived.WideKeyArgs
import Derived.ChangeSlices
open Go.Value renaming oneCell'→af,cells→aC,int→tq,okWide→AB
open And renaming intro→aD
open List renaming getElem?_eq_getElem→aF,getD_eq_getElem?_getD→aN,mem_range→aX,length_cons→aZ,range→bn,mem_singleton→bv,mem_map→bz,mem_cons_of_mem→bD,mem_cons_self→bE,take_of_length_le→bI,append_nil→bK,length_nil→bL,nil_append→bS,mem_append→cz,mem_cons→cK,toList_toArray→dn,cons_append→dC,all_eq_true→eB,take→eD,replicate→eQ,drop→gL,take_add_one→gY,getElem?_eq_none→ic,map_cons→iq,getElem?_take→kE,getElem?_eq_some_iff→kM,getElem?_map→kV,size_toArray→kX,getD→lc,getElem?_drop→lh,length_take→lC,flatten_replicate_singleton→lG,ext_getElem?→lY,nodup_cons→mJ,eq_nil_of_length_eq_zero→ny,pairwise_append→nY,getElem_append_right→qz,mem_of_mem_take→qO,length_erase_of_mem→rf,pairwise_map→rz,range_succ→rA,map_congr_left→rM,mem_erase_of_ne→sS,getElem_append_left→vC,getElem_cons_zero→wF,getElem?_modify→xQ,getElem_cons_succ→zM,foldl_cons→zR,set_append_right→zS,drop_zero→LF
open Go.Proofs.Tryz renaming prog→aS,underlying29→ib,underlying185→qm,underlying187→yE,underlying244→GA
open Int renaming toNat_natCast→aW,ofNat_tmod→AL,tmod→MF
open Bool renaming and_eq_true→aY,not_false→bJ,not_true→bP,or_eq_true→ed,not_eq_true'→fw,eq_iff_iff→zP,not_eq_true→IB
open Nat renaming le_refl→bi,testBit_or→bM,eq_of_testBit_eq→dG,mod_two_eq_zero_or_one→dM,testBit_and→eO,zero_testBit→kS,zero_add→kY,le_trans→mK,testBit_div_two→ol,mod_eq_of_lt→pz,testBit_zero→rT,lt_of_lt_of_le→rX,pow_le_pow_right→sW,and_le_right→ui,testBit_two_pow→vk,min_eq_left→zW,strongRecOn→AA,and_assoc→FX,and_le_left→KW,testBit_xor→Lj,mod_lt→Mc
open Array renaming getElem?_eq_some_iff→eF,getElem?_push→lT,getElem?_toList→sD,toList_inj→Iz
open BitVec renaming ofInt_natCast→nX,toNat_ofNat→qb,ofInt→xI,toNat_and→IA
open Go.MapKept renaming run_getObj_map→wV,run_setObj_map→xe
set_option linter.unusedSimpArgs false
set_option linter.unusedVariables false
set_option linter.defProp false
set_option maxRecDepth 100000
namespace Go.Proofs.YtejmkibjpaoahaaGreatDoor.Mo
open Go Go.Proofs Go.Eng Go.Run Tab
section
variable {F:Eng.Heap->Prop}
set_option maxHeartbeats 1000000
def zCj:=(aD (aD (aD @zEm @zD2) (aD @by3 @zE3)) (aD (aD @zDX @zGF) (aD @sz3 @Tryz.underlying29)))
def zC9:=(aD (aD (aD @zEm @by3) (aD @zE3 @zDX)) (aD (aD @zGF @sz3) (aD @zDf @Tryz.underlying29)))
theorem zNx {h:Eng.Heap}{er:Env}{ty:TypeId}{m0:Nat}{x y:Operand}{a b:Option Addr}{len cap m c:Nat}{xs ys:List Int}{K:Value->Eng.Heap->Prop}(hx:ev er x= .slice a len cap)(hy:ev er y= .slice b m c)(O:eG m0 h 3 a len cap xs)(h0h:m0<=h.size)(I:eu h b m ys)(hb:len+m<=100000)
 (H:∀a' cap' h',eG m0 h' 3 a' (len+m) cap' (xs++ys)->App h h' a a'->K (.slice a' (len+m) cap') h'):aI aS (.call ⟨.builtin .append,#[x,y],#[29,29]⟩) ty er h K:=
 WW ib ib zDX sz3 (by rw[by3];decide) zDf hx hy O h0h I hb H
def yis (xs:List Int):List (List Value):=xs.map fun x=>[.int .i64 x]
theorem zMp (lo bx n c:Nat)(a:Option Addr)(xs:List Int)(h:Eng.Heap)(hn:n=xs.length)(hl:n<=1000000)(J:Nat->Eng.Heap->Prop)(E:Eng.Heap->Prop)
 (hx:∀i h',J i h'->h'[bx]? =some (.cells #[.slice a n c] 29)/\eu h' a n xs) (h0:J 0 h)
 (step:∀i h' vs,(yis xs)[i]? =some vs->J i h'->Aw aS (.func (.yield lo) #[] #[]) vs h' (fun v h''=>(v= .bool true/\J (i+1) h'')\/(v= .bool false/\E h''))):
 ak aS 99 (#[]++ #[.func (.yield lo) #[] #[]]++ #[.pointer (some ⟨bx,0,none⟩)]) h (fun v h'=>J (yis xs).length h'\/E h'):=by
 simp only[Array.append_empty,Array.empty_append,List.append_toArray,dC,bS]
 (refine Rm Tryz.func99 rfl zOD ?_;simp only[Tryz.ntmps99,Tryz.results99,coreS,U1,splice,aC,af,seval,zCj])
 simp only[(hx 0 h h0).1,coreS,aC,af,seval,zCj];refine zAi [4,7,8,9,10,11,12,13,14,15] (fun g h'=>∃i:Nat,i<=n/\g 7= .int .i64 i/\J i h') (fun g _=>match g 7 with| .int _ m=>n-m.toNat|_=>0) ?_ ?_
 .exact⟨0,by omega,rfl,h0⟩
 .rintro g h' ⟨i,D,u,j⟩;have r:=(hx i h' j).2;simp only[u,coreS,aC,af,seval,zCj];refine⟨fun B=> ?_,fun w=> ?_⟩
  .have b:i<xs.length:=by omega
   simp only[r.cell b,coreS,aC,af,seval,Uo,YA,XA,Xg,YV,Zi,zCj];refine⟨⟨by omega,by omega⟩,r.isSome (by omega),?_⟩;have q:=step i h' [.int .i64 (xs.getD i 0)] (by simp[yis,lc,aF b]) j;refine q.run1 rfl rfl ?_;rintro v C (⟨rfl,o⟩|⟨rfl,t⟩)
   .simp only[coreS,aC,af,seval,Uo,YA,XA,Xg,YV,Zi,zCj];refine⟨by rw[zBS];omega,Zr (by kernel_rfl) ⟨i+1,by omega,rfl,o⟩ ?_⟩;show n-((i:Int)+1).toNat<n-(i:Int).toNat;omega
   .simp only[coreS,aC,af,seval,Uo,YA,XA,Xg,YV,Zi,zCj];exact .inr t
  .have:i=n:=by omega
   subst this;left;have e:(yis xs).length=xs.length:=by simp[yis]
   rw[e,<-hn];exact j
theorem zHW {bx n c:Nat}{a:Option Addr}{xs:List Int}(hn:n=xs.length)(hl:n<=1000000):
 zA4 aS (.func (.func 99) #[] #[.pointer (some ⟨bx,0,none⟩)]) (fun h'=>h'[bx]? =some (.cells #[.slice a n c] 29)/\eu h' a n xs) (yis xs):=
 ⟨99,_,_,rfl,fun o e J E j g b=>zMp o bx n c a xs e hn hl J E j g b⟩
theorem zMo (a:Option Addr)(n c:Nat)(h:Eng.Heap):ak aS 37 #[.slice a n c] h (fun v h'=>v= .func (.func 99) #[] #[.pointer (some ⟨h.size,0,none⟩)]/\h'=h.push (.cells #[.slice a n c] 29)):=by
 (refine Rm Tryz.func37 rfl zOA ?_;simp only[Tryz.ntmps37,Tryz.results37,coreS,U1,splice,aC,af,seval])
theorem zI5 (v:Value)(xs:List Int)(h:Eng.Heap)(hseq:zA4 aS v F (yis xs))(hl:xs.length<=1000)(hF:∀h',Ext h h'->F h'):
 ak aS 162 #[.slice none 0 0,v] h (fun v' h'=>Ext h h'/\GM h.size h' 3 v' xs):=by
 (refine Rm Tryz.func162 rfl zLd ?_;simp only[Tryz.ntmps162,Tryz.results162,coreS,U1,splice,aC,af,seval,zC9])
 obtain⟨Q,Z⟩:∃Q,Q=h.push (.cells (Value.slice none 0 0).cells 29):=⟨_,rfl⟩;refine Zp (xss:=yis xs) rfl hseq (fun i h'=>Ext h h'/\i<=xs.length/\h'[h.size+1]? =some (.deferred (some []))/\∃a cap,h'[h.size]? =some (.cells #[.slice a i cap] 29)/\eG (h.size+3) h' 3 a i cap (xs.take i)) (fun _ _=>False) ?_ ?_ ?_ ?_ ?_ ?_ ?_ ?_
 .intro W b;simp only[yis,bz]at b;obtain⟨_,_,rfl⟩:=b;rfl
 .exact fun i h' H=>hF _ H.1
 .rintro i q r ⟨x,I,t,a,cap,E,N⟩ u;simp only[Rh]at u;exact⟨u.ext x (by omega),I,u.get t (by omega),a,cap,u.get E (by omega),N.upd u (by omega)⟩
 .exact fun j q r H _=>H
 .intro h' x q r;simp only[Rh]at q;exact⟨x.zBe,by omega,q,none,0,x.get jD,eG.nil _ _ _⟩
 .rintro i h' W o b ⟨x,I,q,a,cap,r,t⟩ J;obtain⟨g,rfl⟩:∃g:i<xs.length,W=[.int .i64 (xs.getD i 0)]:=by
   simp only[yis,kV]at b;cases hq:xs[i]? with
   |none=>simp[hq]at b
   |some y=>
    obtain⟨g,hy⟩:=kM.1 hq;refine⟨g,?_⟩;simp[hq]at b;simp[lc,hq,b]
  simp only[Rh]at J;simp only[XG,coreS,aC,af,seval,Uo,YA,XA,Xg,YV,Zi,zC9];refine⟨J,fun E o2 C w=> ?_⟩;have M:=C.get r (by omega);have R:=C.get q (by omega);have T:=t.upd C (by omega);have U:=C.ext x (by omega);clear q r t x C J;simp only[M,coreS,aC,af,seval,Uo,YA,XA,Xg,YV,Zi,zC9];have L:=bA w;have n:=T.ext ((Ext.refl E).push (.cells #[.int .i64 (xs.getD i 0)] 3));refine zNx rfl rfl n (by simp;omega) (zDD jD) (by omega) fun X B N O A=> ?_
  have q1:=A.upd n (Jy R) (by omega);have V:=A.upd n (Jy M) (by omega);have q3:=A.upd n (Jy w) (by omega);have qx:=A.extN n (U.push _) (by omega);clear A R M T n w L U;simp only[V,coreS,aC,af,seval,Uo,YA,XA,Xg,YV,Zi,zC9];refine Oy V (by simp) fun h6 Y D=> ?_
  simp only[Xj,coreS,aC,af,seval,Uo,YA,XA,Xg,YV,Zi,zC9];refine⟨D.get q3 (by omega),D.ext qx (by omega),g,D.get q1 (by omega),X,B,Y,?_⟩;have e:xs.take i++[xs.getD i 0]=xs.take (i+1):=by
   rw[gY,aF g,lc,aF g];rfl
  rw[<-e];exact O.upd D (by omega)
 .rintro h' ⟨x,I,q,a,cap,r,t⟩;have e:(yis xs).length=xs.length:=by simp[yis]
  rw[e]at r t;simp only[Rh,r,coreS,aC,af,seval,Uo,YA,XA,Xg,YV,Zi,zC9];refine zBD q ?_;simp only[coreS,aC,af,seval,Uo,YA,XA,Xg,YV,Zi,zC9];rw[bI (bi _)]at t;exact⟨Upd.set.ext x (by omega),a,cap,rfl,(t.upd Upd.set (by omega)).mono (by omega)⟩
 .exact fun j h' H=>H.elim
theorem zK9 (v:Value)(xs:List Int)(h:Eng.Heap)(hseq:zA4 aS v F (yis xs))(hl:xs.length<=1000)(hF:∀h',Ext h h'->F h'):
 ak aS 97 #[v] h (fun v' h'=>Ext h h'/\GM h.size h' 3 v' xs):=by
 (refine Rm Tryz.func97 rfl zOC ?_;simp only[Tryz.ntmps97,Tryz.results97,coreS,U1,splice,aC,af,seval])
 refine ak.mono (zI5 v xs h hseq hl hF) ?_;rintro v' b ⟨x,N⟩;simp only[coreS,aC,af,seval];exact⟨x,N⟩
theorem zMi (v:Value)(xs:List Int)(h:Eng.Heap)(hseq:zA4 aS v F (yis xs))(hl:xs.length<=1000)(hF:∀h',Ext h h'->F h'):
 ak aS 36 #[v] h (fun v' h'=>Ext h h'/\∃ys,ys.Perm xs/\srt ys/\GM h.size h' 3 v' ys):=by
 (refine Rm Tryz.func36 rfl zNz ?_;simp only[Tryz.ntmps36,Tryz.results36,coreS,U1,splice,aC,af,seval])
 refine ak.mono (zK9 v xs h hseq hl hF) ?_;rintro v' o ⟨j,a,cap,rfl,O⟩;simp only[coreS,aC,af,seval];refine ak.mono (zJo h.size xs.length cap a xs o O (by omega)) ?_;rintro v u ⟨rfl,⟨r,t⟩,ys,g,q,n⟩;simp only[coreS,aC,af,seval];refine⟨⟨mK j.size r,fun b e=>(t b (rX e j.size) e).trans (j.old b e)⟩,ys,g,q,a,cap,by rw[g.length_eq],?_⟩;have:=n;rwa[<-g.length_eq]at this
end
end Go.Proofs.YtejmkibjpaoahaaGreatDoor.Mo
namespace Go.Proofs.YtejmkibjpaoahaaGreatDoor.Mo
open Go Go.Proofs Go.Eng Go.Run Tab
section
variable {i:Nat}{mo sh:Nat->Nat}
set_option maxHeartbeats 1000000
def zCX:=(aD (aD (aD @zGI (aD @zI3 @zD2)) (aD @by3 (aD @zEs @zGM))) (aD (aD @zIt (aD @zDX @zJP)) (aD (aD @zMj @sz3) (aD @Tryz.underlying22 @Tryz.underlying29))))
def zE5 (xs:List Int):List Nat:=xs.map Int.toNat
theorem zGN (xs:List Int):(zE5 xs).length=xs.length:=by simp[zE5]
theorem zM3 (xs:List Int)(i:Nat):(zE5 xs).getD i 0=(xs.getD i 0).toNat:=by
 simp only[zE5,lc,kV];cases xs[i]? <;>rfl
def zsN (l:List Nat):List Int:=l.map fun j:Nat=>(j:Int)
theorem zJW {xs:List Int}(h:∀x∈xs,0<=x):zsN (zE5 xs)=xs:=by
 unfold zsN zE5;rw[List.map_map]
 conv=>rhs;rw[<-List.map_id xs]
 refine rM fun x b=> ?_
 have:=h x b;show((x.toNat:Nat):Int)=x;omega
theorem zM4 (l:List Nat):zE5 (zsN l)=l:=by
 unfold zsN zE5;rw[List.map_map]
 conv=>rhs;rw[<-List.map_id l]
 exact rM fun x b=>by simp
def zGE (ws:List Wn)(days:List Int):Prop:=MB.zEG (shN ws) (moN ws) (zE5 days)
open Classical in
noncomputable def zF7 (S M:Int)(ws:List Wn)(days:List Int):Int:=
 if chk S M ws≠0 then chk S M ws else if days.length≠ws.length then 15 else if inB 0 13 days=false then 3 else if zGE ws days then 0 else 18
noncomputable def zLm (S M:Int)(ws:List Wn)(days:List Int):Int:=if zF7 S M ws days=0 then(MB.dif (zE5 days):Nat)else 0
def onL (c:Nat->Nat)(i:Nat):List (Nat×Nat):=(bn i).map fun k=>(k,c k)
theorem zM6 (c:Nat->Nat)(i:Nat):onL c (i+1)=onL c i++[(i,c i)]:=by simp[onL,rA]
theorem zIp {L:List (Nat×Nat)}{k:Sk}:held sh mo L k=true<->∃x∈L,k=(0,sh x.1,x.2)\/k=(1,mo x.1,x.2):=by
 simp[held]
theorem zLr {L:List (Nat×Nat)}{d:Nat}:fits sh mo L i d=true<->∀x∈L,x.2=d->sh x.1≠sh i/\mo x.1≠mo i:=by
 unfold fits;rw[aY,fw,fw,<-IB,<-IB,zIp,zIp];constructor
 .rintro⟨g,j⟩ x b rfl;exact⟨fun e=>g ⟨x,b,.inl (by rw[e])⟩,fun e=>j ⟨x,b,.inr (by rw[e])⟩⟩
 .intro H;refine⟨?_,?_⟩
  .rintro⟨x,b,h|h⟩
   .simp only[Prod.mk.injEq]at h;exact(H x b h.2.2.symm).1 h.2.1.symm
   .simp at h
  .rintro⟨x,b,h|h⟩
   .simp at h
   .simp only[Prod.mk.injEq]at h;exact(H x b h.2.2.symm).2 h.2.1.symm
theorem zKB {c:Nat->Nat}{d:Nat}:fits sh mo (onL c i) i d=true<->∀k,k<i->c k=d->sh k≠sh i/\mo k≠mo i:=by
 rw[zLr];constructor
 .intro H k b e;exact H (k,c k) (bz.2 ⟨k,aX.2 b,rfl⟩) e
 .intro H x g e;simp only[onL,bz,aX]at g;obtain⟨k,b,rfl⟩:=g;exact H k b e
theorem right_step {c:Nat->Nat}:MB.right sh mo c (i+1)<->MB.right sh mo c i/\∀k,k<i->c k=c i->sh k≠sh i/\mo k≠mo i:=by
 constructor
 .intro H;exact⟨fun a b r t=>H a b (by omega) (by omega),fun k u e=>H k i (by omega) (by omega) (by omega) e⟩
 .rintro⟨q,j⟩ a b r t g e;by_cases n:a<i<;>by_cases o:b<i
  .exact q a b n o g e
  .obtain rfl:b=i:=by omega
   exact j a n e
  .obtain rfl:a=i:=by omega
   have:=j b o e.symm;exact⟨fun e=>this.1 e.symm,fun e=>this.2 e.symm⟩
  .omega
theorem zIg {ys:List Int}{days:List Int}(hp:ys.Perm days)(hs:srt ys)(h0:∀x∈days,0<=x):(Lib.compact ys).length=MB.dif (zE5 days):=by
 refine MB.zIf (days:=zE5 days) ?_ hs;have:=zJW h0;unfold zsN at this;rw[this];exact hp
theorem zIc (S M:Int)(a:Option Addr)(n c:Nat)(ws:List Wn)(b:Option Addr)(m k:Nat)(days:List Int)(h:Eng.Heap)(hr:Row h a (wsV ws))(hn:n=ws.length)(hl:n<=1000000)(hd:eu h b m days)(hm:m<=1000000):
 ak aS 9 #[.agg #[.int .i64 S,.int .i64 M,.slice a n c],.slice b m k] h (fun v h'=>v= .tuple #[.int .i64 (zLm S M ws days),.int .i64 (zF7 S M ws days)]/\Ext h h'):=by
 have R:=hd.len
 (refine Rm Tryz.func9 rfl zRA ?_;simp only[Tryz.ntmps9,Tryz.results9,coreS,U1,splice,aC,af,seval,zCX])
 have x0:Ext h (h.push (.cells #[.int .i64 S,.int .i64 M,.slice a n c] 24)):=(Ext.refl h).push _;have fin:∀{e:Int} {Q:Prop},zF7 S M ws days=e->e≠0->Q->Value.tuple #[.int .i64 0,.int .i64 e]=Value.tuple #[.int .i64 (zLm S M ws days),.int .i64 (zF7 S M ws days)]/\Q:=fun h1 X q=>⟨by unfold zLm;rw[h1,if_neg X],q⟩
 refine ak.mono (zM7 S M a n c ws _ (hr.push _) hn hl) ?_;rintro v h1 ⟨x1,⟨s,Z,rfl,rfl,V,g,B,rfl,J,N,hgs,hbs⟩|⟨hc,rfl⟩⟩
 rotate_left
 .simp only[hc,decide_false,bJ,coreS,aC,af,seval,zCX];exact fin (by unfold zF7;rw[if_pos hc]) hc (x0.trans x1)
 have hb1:=x1.get (jD (h:=h));have y1:=x0.trans x1;have t:=V.chk;simp only[hb1,bP,decide_true,coreS,aC,af,seval,zCX];refine⟨fun heq=> ?_,fun hne=>fin (by unfold zF7;rw[if_neg (by simpa using t),if_pos (by omega)]) (by omega) y1⟩;refine ak.mono (zFC 0 13 b m k days h1 (hd.ext y1) hm) ?_;rintro v X ⟨rfl,x2⟩;have U:=y1.trans x2;cases hin:inB 0 13 days with
 |false=>
  simp only[bJ,coreS,aC,af,seval,zCX];exact fin (by unfold zF7;rw[if_neg (by simpa using t),if_neg (by omega),if_pos hin]) (by omega) U
 |true=>
 have hg2:=x2.get J;have r:=x2.get N;have hall:=zKG.1 hin;obtain⟨C,hC⟩:∃C:Nat->Nat,C=fun i=>(zE5 days).getD i 0:=⟨_,rfl⟩
 have hCd:∀i,i<m->days.getD i 0=(C i:Nat):=fun i hi=>by
  have e1:C i=(zE5 days).getD i 0:=by rw[hC]
  rw[e1,zM3];have hm:days.getD i 0∈days:=by
   have:i<days.length:=by omega
   simp[lc,aF this]
  have:=hall _ hm;omega
 have hRD:∀j,j<=m->¬MB.right (shN ws) (moN ws) C j->¬zGE ws days:=fun j hj hn hr=>by
  unfold zGE MB.zEG at hr;rw[zGN,<-hC]at hr;exact hn fun a b ha hb=>hr a b (by omega) (by omega)
 have hgs1:=bA J;simp only[bP,coreS,aC,af,seval,zCX];have hgm:g≠B:=fun e=>by unfold zFR at J;rw[e,N]at J;cases J
 rw[Rh]at hbs hgs;have hM0:jU kvS X B [] 0:=⟨by simpa using r,by simp,by simp⟩;refine zAi [4,5,8,9,33,34,35,36,37,38,39,40,41,42,43] (fun e h'=>Chg X h' B/\zFR h' g B s Z a n c/\∃i:Nat,i<=m/\e 33= .int .i64 i/\(∃W c0,jU kvS h' B W c0/\zHz (shN ws) (moN ws) W (onL C i))/\MB.right (shN ws) (moN ws) C i) (fun e _=>match e 33 with| .int _ q=>m-q.toNat|_=>0) ⟨Chg.refl _ _,hg2,0,by omega,rfl,⟨_,_,hM0,zHz.nil⟩,fun a b ha=>by omega⟩ ?_;rintro e h' ⟨D,L,i,hi,he,⟨W,c0,Mp,H⟩,hR⟩;have I:=(hd.ext U).chg r D;have hr':=(hr.ext U).chg r D;by_cases hil:i<days.length
 .have w:(i:Int)<(m:Int):=by omega
  have o:=I.cell hil;rw[hCd i (by omega)]at o;simp only[he,w,o,decide_true,coreS,aC,af,seval,zCX];refine⟨by omega,hd.isSome (by omega),?_⟩;refine ak.mono (zOv g B s Z a n c ws i (C i) W c0 _ h' L hr' hn V (by omega) Mp H) ?_;rintro v h3 ⟨rfl,u,es',c',Mp3,H3⟩;cases hf:fits (shN ws) (moN ws) (onL C i) i (C i)with
  |false=>
   simp only[bJ,coreS,aC,af,seval,zCX];refine fin ?_ (by omega) (Chg.fresh U (D.trans u) (by omega));unfold zF7;rw[if_neg (by simpa using t),if_neg (by omega),if_neg (by simp[hin]),if_neg];refine hRD (i+1) (by omega) fun hr1=> ?_
   have:=zKB.2 (right_step.1 hr1).2;rw[hf]at this;cases this
  |true=>
   rw[hf,if_pos rfl,<-zM6]at H3;simp only[bP,coreS,aC,af,seval,zCX];refine⟨by rw[zBS];omega,Zr (by kernel_rfl) ⟨D.trans u,u.get L hgm,i+1,by omega,rfl,⟨_,_,Mp3,H3⟩,right_step.2 ⟨hR,zKB.1 hf⟩⟩ ?_⟩;show m-((i:Int)+1).toNat<m-(i:Int).toNat;omega
 .obtain rfl:i=m:=by omega
  have w:¬((i:Int)<(i:Int)):=by omega
  have hD:zF7 (s:Int) (Z:Int) ws days=0:=by
   unfold zF7;rw[if_neg (by simpa using t),if_neg (by omega),if_neg (by simp[hin]),if_pos];unfold zGE MB.zEG;rw[zGN,<-hC,<-R];exact hR
  have z3:Ext h h':=Chg.fresh U D (by omega);have V3:=V.n;simp only[he,w,decide_false,coreS,aC,af,seval,zCX];refine ak.mono (zMo b i k h') ?_;rintro v h3 ⟨rfl,rfl⟩;have T:=zHW (bx:=h'.size) (n:=i) (c:=k) (a:=b) (xs:=days) R hm;simp only[coreS,aC,af,seval,zCX];refine ak.mono (zMi _ days _ T (by omega) fun Y x4=>⟨x4.get jD,(I.ext ((Ext.refl h').push _)).ext x4⟩) ?_;rintro v Y ⟨x4,ys,hp,hs,a4,cap,rfl,O⟩;have hcl:=zIg hp hs fun x hx=>(hall x hx).1
  have z4:Ext h Y:=z3.trans (x4.zBe);have E:zLm (s:Int) (Z:Int) ws days=((Lib.compact ys).length:Nat):=by unfold zLm;rw[if_pos hD,hcl]
  simp only[coreS,aC,af,seval,zCX];by_cases h0:0<ys.length
  .obtain⟨g4,tl,rfl,hg4,hb4,hc4,hc5,_⟩:=O.block h0;refine ak.mono (zKa g4 cap _ ys tl Y hb4 rfl hc5 (by rw[hp.length_eq];omega)) ?_;rintro v h5 ⟨rfl,u5⟩;rw[Rh]at hg4;have:=z3.size;simp only[hD,E,coreS,aC,af,seval,zCX];exact u5.ext z4 (by omega)
  .obtain rfl:ys=[]:=List.length_eq_zero_iff.1 (by omega);refine ak.mono (zLk a4 cap Y) ?_;rintro v h5 ⟨rfl,rfl⟩;have e0:(Lib.compact ([]:List Int)).length=0:=by rfl
   simp only[hD,E,e0,coreS,aC,af,seval,zCX];exact z4
end
end Go.Proofs.YtejmkibjpaoahaaGreatDoor.Mo
namespace Go.Proofs.YtejmkibjpaoahaaGreatDoor.Mo
open Go Go.Proofs Go.Eng Go.Run Tab
set_option maxHeartbeats 1000000
def zDP:=(aD (aD (aD @zGI (aD @zD2 @zK3)) (aD @zEs (aD @zFw @zFx))) (aD (aD @zGM (aD @zDX @zHe)) (aD (aD @zJP @sz3) (aD @zLO @Tryz.underlying22))))
theorem zNG (S M:Nat)(a:Option Addr)(n c:Nat)(ws:List Wn)(i k:Nat)(h:Eng.Heap)(hr:Row h a (wsV ws))(hn:n=ws.length)(V:Vb S M ws)(hi:i<ws.length)(hk:k<ws.length):
 ak aS 32 #[.agg #[.int .i64 S,.int .i64 M,.slice a n c],.int .i64 i,.int .i64 k] h (fun v h'=>v= .bool (MB.clash (shN ws) (moN ws) i k)/\Ext h h'):=by
 (refine Rm Tryz.func32 rfl zPo ?_;simp only[Tryz.ntmps32,Tryz.results32,coreS,U1,splice,aC,af,seval,zDP])
 have w:Ext h (h.push (.cells #[.int .i64 S,.int .i64 M,.slice a n c] 24)):=(Ext.refl h).push _;have e:=hr.push (.cells #[.int .i64 S,.int .i64 M,.slice a n c] 24);have t:=faR hr hi;have g:=zGo e hi;have j:=zFs e hi;have o:=zGo e hk;have q:=zFs e hk;rw[(V.s hi).1]at g;rw[(V.m hi).1]at j;rw[(V.s hk).1]at o;rw[(V.m hk).1]at q;have b:=zEH hr hi;have r:MB.clash (shN ws) (moN ws) i k=(decide (((shN ws i:Nat):Int)=(shN ws k:Nat))||decide (((moN ws i:Nat):Int)=(moN ws k:Nat))):=by
  unfold MB.clash;congr 1
  .rw[zP];simp;omega
  .rw[zP];simp;omega
 rw[r];refine zB9 (by kernel_rfl) zBp [(0,0),(1,0),(2,0),(3,0),(4,0),(5,0),(6,0),(7,0),(8,0),(9,0),(10,0),(11,0),(12,0),(13,0),(14,0),(15,0),(16,0),(17,0),(18,0),(19,0),(20,0),(21,0),(22,0),(23,0),(24,0),(25,0),(26,0),(27,0),(28,0)] (by kernel_rfl) rfl (by kernel_rfl) ?_;by_cases u:((shN ws i:Nat):Int)=(shN ws k:Nat)
 .simp only[t,g,j,o,q,u,decide_true,Ye,aW,coreS,aC,af,seval,drawS,zDP];refine⟨⟨by omega,by omega⟩,b,⟨by omega,by omega⟩,b,?_⟩;exact⟨by simp,w⟩
 .simp only[t,g,j,o,q,u,decide_false,Ye,aW,coreS,aC,af,seval,drawS,zDP];refine⟨⟨by omega,by omega⟩,b,⟨by omega,by omega⟩,b,⟨by omega,by omega⟩,b,⟨by omega,by omega⟩,b,?_⟩;exact⟨by simp,w⟩
end Go.Proofs.YtejmkibjpaoahaaGreatDoor.Mo
namespace Go.Eng
open Go Go.ChangeShapes Go.WideShapes Go.ChangeAt Go.RowKit
section rowkit
variable {P:Program}{H:Type}{enc:TypeId×Value->H}
theorem Vd {W W':World}(x:Ext W.heap W'.heap){p:MemPlace}(hp:p.block<W.heap.size):W.sameAt W' p:=by
 have h:=x.old p.block hp;cases p with
 |cell b o=>exact World.cell?_of_block (w:=W) h
 |map b=>exact h
theorem Ij (hl:laidOutB P=true){W W':World}(x:Ext W.heap W'.heap){sp:Nat->Bool}:∀{ts:List TypeId} {vs:List Value} {ds:List (DataW H)} {ps:List MemPlace},
 (ts.all fun t=>P.readableRec t&&decide (t<P.types.size))=true->DataW.TrodAll enc P W 0 (fun _=>true) true ts vs ds ps->(∀p∈ps,p.block<W.heap.size)->(∀p∈ps,sp p.block=true)->DataW.TrodAll enc P W' 0 sp true ts vs ds ps
 |[],[],[],ps,_,h,_,_=>h
 |t::ts,v::vs,d::ds,ps,ht,⟨p,q,h1,h2,he⟩,hb,hs=>by
  subst he;simp only[List.all_cons,aY,decide_eq_true_eq]at ht;exact⟨p,q,WideElems.Trod_stays hl ht.1.1 ht.1.2 h1 (fun y b=>Vd x (hb y (by simp[b]))) (fun y b=>hs y (by simp[b])),
   Ij hl x (by simpa using ht.2) h2 (fun y b=>hb y (by simp[b])) (fun y b=>hs y (by simp[b])),rfl⟩
theorem open_slice {W:World}{base b0:Nat}{r:Reach}{sp:Nat->Bool}{held:Bool}{t e:TypeId}{v:Value}{d:DataW H}{ps:List MemPlace}(ht:P.underlying t=some (.slice e))(he:P.underlying e=some (.int .i64))(hc:P.cellsOf e=1)
 (hval:AB P W r b0 t v) (hd:DataW.Trod enc P W base sp held t v d ps):∃a n c xs,v= .slice a n c/\eu W.heap a n xs/\n<=c/\c<=maxLen/\∀x∈xs,(Lit.int .i64 x).wf=true:=by
 obtain⟨a0,n,c,rfl⟩:=okWide_slice ht hval;obtain⟨T,Z⟩:=hd;rcases open_ints ht he hc Z with⟨o,_⟩|⟨a,len,cap,I,o,_,hl,hm,hz,_,j,hw⟩
 .simp[aC]at o;obtain⟨rfl,rfl,rfl⟩:=o;exact⟨none,0,0,[],rfl,eu.nil _,by omega,by omega,by simp⟩
 .simp[aC]at o;obtain⟨rfl,rfl,rfl⟩:=o;have hlz:n<=I.length:=by rw[hz];split<;>omega
  refine⟨some a,n,c,I.take n,rfl,⟨by simp;omega,?_⟩,hl,hm,fun x hx=>hw x (qO hx)⟩;by_cases hn:n=0
  .left;subst hn;simp[Eng.ints]
  .right;have Y:=j 0 (by omega);have E:∀i u,W.cell? (a.add i)=some u->(i=0->a.spot=none)/\∃g J L,W.heap[a.block]? =some (.cells g J L)/\g[a.off+i]? =some u:=by
    intro i u D;unfold World.cell? Addr.add at D;by_cases B:i=0
    .subst B;simp only[if_true]at D;split at D<;>simp_all
    .simp only[B,if_false]at D;split at D<;>simp_all
   obtain⟨w,g,J,L,M,_⟩:=E 0 _ Y;have q:∀i,i<I.length->g[a.off+i]? =some (.int .i64 (I.getD i 0)):=fun i B=>by
    obtain⟨_,R,V,X,C,N⟩:=E i _ (j i B);rw[M]at C;cases C;exact N
   have O:a.off+n<=g.size:=by
    have:=q (n-1) (by omega);have:=(eF.1 this).1;omega
   obtain⟨b,Q,U⟩:=a
   replace w:=w rfl
   simp only at w M q O;subst w;refine⟨b,Q,g,J,L,rfl,M,by simp[Eng.aR];omega,?_⟩;apply lY;intro i;rw[Eng.aR,lC,kE,lh];by_cases B:i<n
   .rw[if_pos (by omega),sD,q i (by omega),Eng.Cn _ _ (by simp;omega)];simp[lc,kE,B]
   .rw[if_neg (by omega),ic];rw[Eng.aR,lC];omega
theorem zAB {f:FuncId}{args:Array Value}{W:World}{b:Bool}(hc:ak P f args W.heap (fun v h'=>v= .bool b/\Ext W.heap h')):Calls P f args W fun e W'=>e= .returned (.bool b)/\Ext W.heap W'.heap/\Rest W W':=by
 unfold ak gP at hc;refine Calls.mono (hc.2 W rfl) ?_;rintro e W' ⟨v,rfl,⟨rfl,x⟩,r⟩;exact⟨rfl,x,r⟩
end rowkit
end Go.Eng
namespace Go.Eng
open Go Go.ChangeShapes Go.WideShapes Go.ChangeAt Go.RowKit
theorem zAp {P:Program}{H:Type}{enc:TypeId×Value->H}{W:World}{base b0:Nat}{r:Reach}{sp:Nat->Bool}{held:Bool}{t:TypeId}{v:Value}{d:DataW H}{ps:List MemPlace}(ht:P.underlying t=some .string)
 (hval:AB P W r b0 t v) (hd:DataW.Trod enc P W base sp held t v d ps):∃s,v= .string s/\s.size<=9223372036854775807:=by
 obtain⟨s,rfl⟩:=okWide_string ht hval;obtain⟨b,j⟩:=hd;obtain⟨n,e,_,g⟩:=DataW.trod_string ht j;simp[aC]at e;subst e;exact⟨s,rfl,g⟩
def pX (xs:List Int):List Value:=xs.map fun x=> .int .u8 x
theorem mY (xs:List Int):(pX xs).length=xs.length:=List.length_map _
theorem Yq (xs:List Int){i:Nat}(h:i<(pX xs).length):(pX xs)[i]= .int .u8 (xs[i]'(by simpa[pX]using h)):=by simp[pX]
theorem Z0 {P:Program}{H:Type}{enc:TypeId×Value->H}{W:World}{base b0:Nat}{r:Reach}{sp:Nat->Bool}{held:Bool}{t e:TypeId}{v:Value}{d:DataW H}{ps:List MemPlace}(ht:P.underlying t=some (.slice e))(he:P.underlying e=some (.int .u8))(hc:P.cellsOf e=1)
 (hval:AB P W r b0 t v) (hd:DataW.Trod enc P W base sp held t v d ps):∃a n c xs,v= .slice a n c/\(n=xs.length/\n<=c)/\Row W.heap a (pX xs)/\n<=9223372036854775807/\∀x∈xs,0<=x/\x<=255:=by
 obtain⟨a0,n,c,rfl⟩:=okWide_slice ht hval;obtain⟨U,hf⟩:=hd;rcases open_ints ht he hc hf with⟨o,_⟩|⟨a,len,cap,I,o,_,V,hm,hz,_,j,hw⟩
 .simp[aC]at o;obtain⟨rfl,rfl,rfl⟩:=o;exact⟨none,0,0,[],rfl,⟨rfl,bi _⟩,.inl rfl,by omega,by simp⟩
 .simp[aC]at o;obtain⟨rfl,rfl,rfl⟩:=o;have hlz:n<=I.length:=by rw[hz];split<;>omega
  refine⟨some a,n,c,I.take n,rfl,⟨by simp;omega,V⟩,?_,mK V hm,fun x hx=>bounds_u8 (hw x (qO hx))⟩;by_cases hn:n=0
  .left;subst hn;simp[pX]
  .right;have h0:=j 0 (by omega);have E:∀i u,W.cell? (a.add i)=some u->(i=0->a.spot=none)/\∃g J L,W.heap[a.block]? =some (.cells g J L)/\g[a.off+i]? =some u:=by
    intro i u D;unfold World.cell? Addr.add at D;by_cases B:i=0
    .subst B;simp only[if_true]at D;split at D<;>simp_all
    .simp only[B,if_false]at D;split at D<;>simp_all
   obtain⟨w,g,J,L,M,_⟩:=E 0 _ h0;have q:∀i,i<I.length->g[a.off+i]? =some (.int .u8 (I.getD i 0)):=fun i B=>by
    obtain⟨_,T,Y,Z,C,N⟩:=E i _ (j i B);rw[M]at C;cases C;exact N
   have Q:a.off+n<=g.size:=by
    have:=q (n-1) (by omega);have:=(eF.1 this).1;omega
   obtain⟨b,R,X⟩:=a
   replace w:=w rfl
   simp only at w M q Q;subst w;refine⟨b,R,g,J,L,rfl,M,by simp[mY];omega,?_⟩;apply lY;intro i;rw[mY,lC,kE,lh];by_cases B:i<n
   .rw[if_pos (by omega),sD,q i (by omega),pX,kV,kE,if_pos B];have O:i<I.length:=by omega
    simp[lc,O]
   .rw[if_neg (by omega),ic];rw[mY,lC];omega
theorem row_of {W:World}{a:Addr}{vs:List Value}(hc:∀i (hi:i<vs.length),W.cell? (a.add i)=some vs[i]):Row W.heap (some a) vs:=by
 by_cases L:vs.length=0
 .left;exact ny L
 right;have r:∀i u,W.cell? (a.add i)=some u->(i=0->a.spot=none)/\∃e t v,W.heap[a.block]? =some (.cells e t v)/\e[a.off+i]? =some u:=by
  intro i u q;unfold World.cell? Addr.add at q;by_cases hi:i=0
  .subst hi;simp only[if_true]at q;split at q<;>simp_all
  .simp only[hi,if_false]at q;split at q<;>simp_all
 obtain⟨j,e,t,v,w,_⟩:=r 0 _ (hc 0 (by omega));have g:∀i (hi:i<vs.length),e[a.off+i]? =some vs[i]:=fun i hi=>by
  obtain⟨_,D,I,J,n,B⟩:=r i _ (hc i hi);rw[w]at n;cases n;exact B
 have o:a.off+vs.length<=e.size:=by
  have:=g (vs.length-1) (by omega);have:=(eF.1 this).1;omega
 obtain⟨b,C,E⟩:=a
 replace j:=j rfl
 simp only at j w g o;subst j;refine⟨b,C,e,t,v,rfl,w,o,?_⟩;apply lY;intro i;rw[kE,lh];by_cases hi:i<vs.length
 .rw[if_pos hi,sD,g i hi,aF hi]
 .rw[if_neg hi,ic (by omega)]
theorem Jq {α:Type}{p:Nat->α->Prop}:∀n,(∀i<n,∃x,p i x)->∃l:List α,l.length=n/\∀i (hi:i<l.length),p i l[i]
 |0,_=>⟨[],rfl,fun i hi=>by simp at hi⟩
 |n+1,H=>by
  obtain⟨l,e,h⟩:=Jq n fun i hi=>H i (by omega)
  obtain⟨x,g⟩:=H n (by omega);refine⟨l++[x],by simp[e],fun i hi=> ?_⟩;by_cases b:i<l.length
  .rw[vC b];exact h i b
  .have:i=l.length:=by simp at hi;omega
   subst this;rw[qz (bi _)];simpa[e]using g
end Go.Eng
namespace Go.Proofs.YtejmkibjpaoahaaGreatDoor.Mo
open Go Go.Proofs Go.Eng Go.Run Tab
set_option maxHeartbeats 1000000
def zCZ:=(aD (aD (aD (aD @zGI @zI3) (aD @zD2 (aD @zQv @by3))) (aD (aD @by5 @zEs) (aD @zGM (aD @zIt @zDX)))) (aD (aD (aD @zRD @zJP) (aD @zMj (aD @sz3 @sz5))) (aD (aD @zDf (aD @Tryz.underlying3 @Tryz.underlying5)) (aD @Tryz.underlying22 (aD @Tryz.underlying25 @Tryz.underlying29)))))
theorem zF4 (l:List Nat):(zsN l).length=l.length:=by simp[zsN]
theorem zQS {h:Eng.Heap}{a:Option Addr}{xs:List Int}(hr:Row h a (pX xs)){j:Nat}(hj:j<xs.length):jL h (lg a j)=some (.int .u8 (xs.getD j 0)):=by
 have:=hr.cell (j:=j) (by rw[mY];exact hj);rw[this,Yq];simp[lc,hj]
theorem zNR (S M:Nat)(a:Option Addr)(n c:Nat)(ws:List Wn)(b:Option Addr)(m k:Nat)(by_:List Int)(h:Eng.Heap)(hr:Row h a (wsV ws))(hn:n=ws.length)(V:Vb S M ws)(hb:Row h b (pX by_))(hm:m=by_.length)(hby:∀x∈by_,0<=x/\x<=255)(hml:m<=1000):
 ak aS 8 #[.agg #[.int .i64 S,.int .i64 M,.slice a n c],.slice b m k] h (fun v h'=>(∃G cap a',v= .slice a' n cap/\eG h.size h' 3 a' n cap (zsN G)/\G.length=n/\MB.zEG (shN ws) (moN ws) G/\∀x∈G,x<14)/\Ext h h'):=by
 have hV:=V.n
 (refine Rm Tryz.func8 rfl zQz ?_;simp only[Tryz.ntmps8,Tryz.results8,coreS,U1,splice,aC,af,seval,zCZ])
 have x0:Ext h (h.push (.cells #[.int .i64 S,.int .i64 M,.slice a n c] 24)):=(Ext.refl h).push _;have hb0:=jD (h:=h) (o:= .cells #[.int .i64 S,.int .i64 M,.slice a n c] 24);have hs0:h.size<(h.push (.cells #[.int .i64 S,.int .i64 M,.slice a n c] 24)).size:=by simp
 generalize h.push (.cells #[.int .i64 S,.int .i64 M,.slice a n c] 24)=hh at x0 hb0 hs0 ⊢;refine zAi [5,6,7,8,9,10,11,12,13,14,15,16,17,18,19,20,21,22,23,24,25,26,27,28,29,30,31,32,33,34,35,36,37,38,39,40,41,42,43,44,45,46,47,48,49,50,51] (fun e h'=>Ext hh h'/\∃i G cap a',i<=n/\e 6= .int .i64 (i:Nat)/\e 5= .slice a' i cap/\eG hh.size h' 3 a' i cap (zsN G)/\G.length=i/\MB.zEG (shN ws) (moN ws) G/\∀x∈G,x<14) (fun e _=>match e 6 with| .int _ q=>n-q.toNat|_=>0) ⟨Ext.refl _,0,[],0,none,by omega,rfl,rfl,eG.nil _ _ _,rfl,fun a b ha=>by simp at ha,by simp⟩ ?_;rintro e h1 ⟨x1,i,G,cap,a',hi,U,J,O,hG,hR,E⟩;have Q:=x1.get hb0;have y1:=x0.trans x1;by_cases hin:i<n
 .have W:(i:Int)<(n:Int):=by omega
  obtain⟨tb,htb⟩:∃tb,decide ((0:Int)<(m:Int))=tb:=⟨_,rfl⟩;simp only[U,Q,W,htb,decide_true,coreS,aC,af,seval,zCZ];refine zBr [7,18,19,20,21,22,23,24,25,26,27] (fun g h'=>h'=h1/\∃r:Nat,r<14/\g 7= .int .i64 r) ?_ ?_
  .cases tb with
   |false=>
    simp only[coreS,aC,af,seval,zCZ];exact zBX (by kernel_rfl) ⟨rfl,0,by omega,rfl⟩
   |true=>
    have hm0:(0:Int)<(m:Int):=of_decide_eq_true htb;have him:i % m<m:=Mc _ (by omega);have e1:MF (i:Int) (m:Int)=((i % m:Nat):Int):=(AL i m).symm;have cb:=zQS (hb.ext y1) (j:=i % m) (by omega);have hbd:=hby (by_.getD (i % m) 0) (by
     have:i % m<by_.length:=by omega
     simp[lc,aF this])
    obtain⟨y,hy⟩:∃y:Nat,by_.getD (i % m) 0=y:=⟨(by_.getD (i % m) 0).toNat,by omega⟩;rw[hy]at cb hbd;have e2:MF (y:Int) 14=((y % 14:Nat):Int):=(AL y 14).symm;have hsb:b.isSome=true:=hb.isSome (by rw[mY];omega);simp only[U,e1,cb,e2,aW,coreS,aC,af,Nat.reduceAdd,Nat.reduceSub,Nat.reduceMul,Nat.reduceLeDiff,Int.reduceEq,Nat.reduceEqDiff,zCZ];refine⟨by omega,⟨by omega,by omega⟩,hsb,by rw[zBS];omega,by omega,?_⟩;exact zBX (by kernel_rfl) ⟨rfl,y % 14,Mc _ (by omega),rfl⟩
  rintro g2 h2 ⟨rfl,r,ha0,hg7⟩;obtain⟨C,hC⟩:∃C:Nat->Nat,C=fun t=>G.getD t 0:=⟨_,rfl⟩
  have hCd:∀t,t<i->(zsN G).getD t 0=(C t:Nat):=fun t Y=>by
   rw[hC];simp only[zsN,aN,kV];cases G[t]? <;>rfl
  have hzl:(zsN G).length=i:=by rw[zF4,hG]
  simp only[hg7,coreS,aC,af,seval,zCZ];refine zAi [7,8,28,29,30,31,32,33,34,35,36,37,38,39,40,41,42,43,44,45,46,47] (fun e h'=>Ext h2 h'/\∃j u:Nat,j<=13/\u<=i/\e 7= .int .i64 ((r+j)% 14:Nat)/\e 8= .int .i64 u/\(∀x,x<j->∃t,t<i/\C t=(r+x)% 14)/\∀t,t<u->C t=(r+j)% 14->shN ws t≠shN ws i/\moN ws t≠moN ws i) (fun e _=>match e 7,e 8 with| .int _ d,.int _ u=>(13-((d.toNat+14-r)% 14))*15+(i-u.toNat)|_,_=>0) ⟨Ext.refl _,0,0,by omega,by omega,by rw[Nat.add_zero,pz ha0];rfl,rfl,fun x X=>by omega,fun t Y=>by omega⟩ ?_;rintro e3 h3 ⟨I,j,u,hj,hkk,B,D,R,hno⟩;have y3:=y1.trans I;have ejx:((r+j)% 14+14-r)% 14=j:=by omega
  by_cases hki:u<i
  .have w:(u:Int)<(i:Int):=by omega
   have O3:=O.ext I;have cg:=O3.ints.cell (j:=u) (by omega);rw[hCd u hki]at cg;have hsa:a'.isSome=true:=O3.ints.isSome (by omega);have hb3:=I.get Q;have N:∀h4,Ext h2 h4->(C u=(r+j)% 14->shN ws u≠shN ws i/\moN ws u≠moN ws i)->(∀t,t<u+1->C t=(r+j)% 14->shN ws t≠shN ws i/\moN ws t≠moN ws i):=fun h4 x4 hh t Y et=>by
    by_cases h:t=u
    .subst h;exact hh et
    .exact hno t (by omega) et
   by_cases T:((C u:Nat):Int)=(((r+j)% 14:Nat):Int)
   .simp only[U,J,B,D,w,cg,T,hb3,decide_true,aW,coreS,aC,af,seval,zCZ];refine⟨by omega,hsa,?_⟩;refine ak.mono (zNG S M a n c ws i u h3 (hr.ext y3) hn V (by omega) (by omega)) ?_;rintro v h4 ⟨rfl,x4⟩;cases hcl:MB.clash (shN ws) (moN ws) i u with
    |true=>
     have e4:MF ((((r+j)% 14:Nat):Int)+1) 14=(((r+(j+1))% 14:Nat):Int):=by
      rw[show((((r+j)% 14:Nat):Int)+1)=(((r+j)% 14+1:Nat):Int) by omega,show(14:Int)=((14:Nat):Int) by rfl,<-AL];congr 1;omega
     have L:∀x,x<j+1->∃t,t<i/\C t=(r+x)% 14:=fun x X=>by
      by_cases h:x=j
      .subst h;exact⟨u,hki,by omega⟩
      .exact R x (by omega)
     have hgb:=MB.zIm (c:=C) (a:=r) (i:=i) (j:=j+1) (by omega) L;simp only[B,D,e4,coreS,aC,af,Nat.reduceAdd,Nat.reduceSub,Nat.reduceMul,Nat.reduceLeDiff,Int.reduceEq,Nat.reduceEqDiff,zCZ];refine⟨by rw[zBS];omega,by omega,by rw[zBS];omega,Zr (by kernel_rfl) ⟨I.trans x4,j+1,0,by omega,by omega,rfl,rfl,L,fun t Y=>by omega⟩ ?_⟩;show(13-(((((r+(j+1))% 14:Nat):Int).toNat+14-r)% 14))*15+(i-((-1:Int)+1).toNat)<(13-(((((r+j)% 14:Nat):Int).toNat+14-r)% 14))*15+(i-(u:Int).toNat);have ejx2:((r+(j+1))% 14+14-r)% 14=j+1:=by omega
     rw[aW,aW,aW,ejx,ejx2];omega
    |false=>
     have h5:=MB.zE0.1 hcl;simp only[B,D,coreS,aC,af,seval,zCZ];refine⟨by rw[zBS];omega,Zr (by kernel_rfl) ⟨I.trans x4,j,u+1,by omega,by omega,rfl,rfl,R,N _ (I.trans x4) fun _=>⟨fun e=>h5.1 e.symm,fun e=>h5.2 e.symm⟩⟩ ?_⟩;show(13-(((((r+j)% 14:Nat):Int).toNat+14-r)% 14))*15+(i-((u:Int)+1).toNat)<(13-(((((r+j)% 14:Nat):Int).toNat+14-r)% 14))*15+(i-(u:Int).toNat);omega
   .simp only[U,J,B,D,w,cg,T,decide_true,decide_false,aW,coreS,aC,af,seval,zCZ];refine⟨by omega,hsa,by rw[zBS];omega,Zr (by kernel_rfl) ⟨I,j,u+1,by omega,by omega,rfl,rfl,R,N _ I fun h=>absurd (by rw[h]) T⟩ ?_⟩;show(13-(((((r+j)% 14:Nat):Int).toNat+14-r)% 14))*15+(i-((u:Int)+1).toNat)<(13-(((((r+j)% 14:Nat):Int).toNat+14-r)% 14))*15+(i-(u:Int).toNat);omega
  .obtain rfl:u=i:=by omega
   have w:¬((u:Int)<(u:Int)):=by omega
   simp only[U,J,B,D,w,decide_false,splice,coreS,aC,af,seval,zCZ];have O4:=(O.ext I).ext ((Ext.refl h3).push (.cells #[.int .i64 ((r+j)% 14:Nat)] 3));have hhs:=y1.size;have hxs:=x1.size;have hxs3:=I.size;refine zNx rfl rfl O4 (by rw[Rh];omega) (zDD jD) (by omega) fun a2 Z h5 O5 A=> ?_
   have x5:Ext hh h5:=A.extN O4 ((x1.trans I).push _) (bi _);simp only[U,coreS,aC,af,seval,zCZ];refine⟨by rw[zBS];omega,Zr (by kernel_rfl) ⟨x5,u+1,G++[(r+j)% 14],Z,a2,by omega,rfl,rfl,?_,by simp[hG],?_,?_⟩ ?_⟩
   .have:zsN (G++[(r+j)% 14])=zsN G++[(((r+j)% 14:Nat):Int)]:=by simp[zsN]
    rw[this];exact O5
   .refine MB.zHQ hR (MB.zIH.2 fun t Y et=> ?_);rw[hG]at Y ⊢;exact hno t Y (by rw[hC];exact et)
   .intro x X;rcases cz.1 X with X|X
    .exact E x X
    .rw[bv.1 X];exact Mc _ (by omega)
   .show n-((u:Int)+1).toNat<n-(u:Int).toNat;omega
 .obtain rfl:i=n:=by omega
  have W:¬((i:Int)<(i:Int)):=by omega
  simp only[U,J,Q,W,decide_false,coreS,aC,af,seval,zCZ];exact⟨⟨G,cap,a',rfl,O.mono (by omega),hG,hR,E⟩,y1⟩
end Go.Proofs.YtejmkibjpaoahaaGreatDoor.Mo
namespace Go.Proofs.YtejmkibjpaoahaaGreatDoor.Mo
open Go Go.Proofs Go.Eng Go.Run Tab
section
variable {S:Nat}{f:Nat->Nat}{i:Nat}
set_option maxHeartbeats 1000000
def zCQ:=(aD (aD (aD (aD @zGI @zD2) (aD @zL1 (aD @zNw @zK3))) (aD (aD @zKC (aD @zEs @zFw)) (aD @zFx (aD @zGM @zDX)))) (aD (aD (aD @zHe @zOH) (aD @zJP (aD @sz3 @zLO))) (aD (aD @zQc (aD @zMu @zMv)) (aD @Tryz.underlying22 (aD @Tryz.underlying29 @Tryz.underlying99)))))
def ldL (f:Nat->Nat)(S i:Nat):List Int:=(bn S).map fun x=>(MB.load f i x:Int)
def ldv (f:Nat->Nat)(S i:Nat):List Value:=Eng.ints (ldL f S i)
theorem zHG:(ldL f S i).length=S:=by simp[ldL]
theorem zCn:(ldv f S i).length=S:=by simp[ldv,Eng.ints,ldL]
theorem zEe {x:Nat}(hx:x<S):(ldv f S i)[x]? =some (.int .i64 (MB.load f i x:Nat)):=by
 simp[ldv,Eng.ints,ldL,hx]
theorem zKs (f:Nat->Nat)(i x:Nat):MB.load f (i+1) x=MB.load f i x+if f i=x then 1 else 0:=by
 unfold MB.load;rw[MB.zDJ];simp
theorem zKJ (hf:f i<S):splice (ldv f S i) (f i) [.int .i64 ((MB.load f i (f i):Nat)+1:Int)]=ldv f S (i+1):=by
 rw[MN _ _ _ (by rw[zCn];exact hf)];refine lY fun x=> ?_
 rw[List.getElem?_set];by_cases b:x<S
 .rw[zEe b,zEe b,zKs];by_cases e:f i=x
  .subst e;simp[zCn,hf]
  .simp[e]
 .have g:(ldv f S i)[x]? =none:=ic (by rw[zCn];omega);have j:(ldv f S (i+1))[x]? =none:=ic (by rw[zCn];omega);rw[g,j,if_neg (by omega)]
theorem zMQ:ldv f S 0=eQ S (.int .i64 0):=by
 refine lY fun x=> ?_
 by_cases b:x<S
 .rw[zEe b];simp[b,MB.load,MB.zId]
 .have e:(ldv f S 0)[x]? =none:=ic (by rw[zCn];omega);rw[e];simp;omega
theorem zFG:(ldv f S i).all Go.Eng.one=true:=by
 rw[eB];intro v b;simp only[ldv,Eng.ints,bz]at b;obtain⟨x,_,rfl⟩:=b;rfl
theorem zHI (f:Nat->Nat)(i x:Nat):MB.load f i x<=i:=MB.zGr _ _
theorem zN1 (g b S M:Nat)(a:Option Addr)(n c:Nat)(ws:List Wn)(h:Eng.Heap)(hg:zFR h g b S M a n c)(hr:Row h a (wsV ws))(hn:n=ws.length)(V:Vb S M ws):
 ak aS 49 #[.pointer (some ⟨g,0,none⟩)] h (fun v h'=>v= .tuple #[.agg (ldv (shN ws) 6 n).toArray,.agg (ldv (moN ws) 6 n).toArray]/\Ext h h'):=by
 unfold zFR at hg;have hgl:=bA hg
 (refine Rm Tryz.func49 rfl zQC ?_;simp only[Tryz.ntmps49,Tryz.results49,coreS,U1,splice,aC,af,Nat.reduceAdd,Nat.reduceSub,Nat.reduceMul,Nat.reduceLeDiff,Int.reduceEq,Nat.reduceEqDiff,zCQ])
 have z6:(((6:Nat):Int)=((0:Nat):Int))=False:=by simp
 have f6:(((6:Nat):Int)-((0:Nat):Int)).toNat=6:=by decide
 have nine:∀{x:Nat},¬(h.size+x+1=h.size+x):=by intro x;omega
 obtain⟨Z,hZ⟩:∃Z:Obj,Z= .cells #[.int .i64 0,.int .i64 0,.int .i64 0,.int .i64 0,.int .i64 0,.int .i64 0] 99:=⟨_,rfl⟩;simp only[z6,f6,if_false,<-hZ];refine⟨by omega,by omega,by omega,by omega,?_⟩;obtain⟨C,j⟩:∃C,C=(((h.push Z).push Z).push Z).push Z:=⟨_,rfl⟩;have s0:C.size=h.size+4:=by rw[j];simp
 have x0:Ext h C:=by rw[j];exact((((Ext.refl h).push _).push _).push _).push _
 have q0:C[h.size]? =some Z:=by rw[j];exact Jy (Jy (Jy jD))
 have q1:C[h.size+1]? =some Z:=by rw[j];exact Jy (Jy pn1)
 have q2:C[h.size+1+1]? =some Z:=by rw[j,lT,if_neg (by simp),lT,if_pos (by simp)]
 have q3:C[h.size+1+1+1]? =some Z:=by rw[j,lT,if_pos (by simp)]
 rw[<-j];clear j;subst hZ;have zz:∀f,splice (eQ 6 (.int .i64 0)) 0 (eQ 6 (.int .i64 0))=ldv f 6 0:=fun f=>by rw[zMQ];rfl
 refine Xl (g:=h.size+1+1) (off:=0) (n:=6) (c:=6) (z:=0) (ct:=99) (cur:=eQ 6 (.int .i64 0)) ib zDf (by rfl) q2 (by simp) fun h1 W I=> ?_
 rw[zz (shN ws)]at W;simp only[z6,f6,if_false,coreS,aC,af,Nat.reduceAdd,Nat.reduceSub,Nat.reduceMul,Nat.reduceLeDiff,Int.reduceEq,Nat.reduceEqDiff,zCQ];refine⟨by omega,by omega,by omega,by omega,?_⟩;refine Xl (g:=h.size+1+1+1) (off:=0) (n:=6) (c:=6) (z:=0) (ct:=99) (cur:=eQ 6 (.int .i64 0)) ib zDf (by rfl) (I.get q3 (by omega)) (by simp) fun h2 g2 J=> ?_
 rw[zz (moN ws)]at g2;have e1:=J.get W (by omega);have p0:=J.get (I.get q0 (by omega)) (by omega);have p1:=J.get (I.get q1 (by omega)) (by omega);have x2:Ext h h2:=J.ext (I.ext x0 (by omega)) (by omega);have hs2:h2.size=h.size+4:=by rw[J.size,I.size,s0]
 clear I J W q0 q1 q2 q3 x0;have hg2:=x2.get hg;simp only[hg2,coreS,aC,af,seval,zCQ];refine zAi [7,16,17,18,19,20,21,22,23,24,25,26,27,28,29,30,31,32] (fun e h'=>Ext h h'/\∃i:Nat,i<=n/\e 16= .int .i64 i/\h'[h.size]? =some (.cells #[.int .i64 0,.int .i64 0,.int .i64 0,.int .i64 0,.int .i64 0,.int .i64 0] 99)/\h'[h.size+1]? =some (.cells #[.int .i64 0,.int .i64 0,.int .i64 0,.int .i64 0,.int .i64 0,.int .i64 0] 99)/\h'[h.size+1+1]? =some (.cells (ldv (shN ws) 6 i).toArray 99)/\h'[h.size+1+1+1]? =some (.cells (ldv (moN ws) 6 i).toArray 99)) (fun e _=>match e 16 with| .int _ q=>n-q.toNat|_=>0) ⟨x2,0,by omega,rfl,p0,p1,e1,g2⟩ ?_;rintro e h' ⟨x,i,hi,he,O,r1,r2,Q⟩;by_cases u:i<ws.length
 .have E:(i:Int)<(n:Int):=by omega
  have hc:=zPX (hr.ext x) u;have hsm:=zEH hr u;have hs:=V.s u;have hm:=V.m u;have hs6:=V.s2;have hm6:=V.m2;rw[hs.1,hm.1]at hc;have hl:=bA Q;have d1:¬(h.size+1+1=h'.size):=by omega
  have d2:¬(h.size+1+1+1=h'.size):=by omega
  have L:=zEe (f:=shN ws) (S:=6) (i:=i) (x:=shN ws i) (by omega);have N:=zEe (f:=moN ws) (S:=6) (i:=i) (x:=moN ws i) (by omega);simp only[he,E,hc,decide_true,aW,coreS,aC,af,seval,zCQ];refine⟨by omega,hsm,?_⟩;refine Oy (c:=[.int .i64 0,.int .i64 0]) jD (by simp) fun h3 X R=> ?_
  simp only[splice,eD,gL,bS,bK,aZ,bL,kY]at X;have w0:=R.get (Jy O) (by omega);have w1:=R.get (Jy r1) (by omega);have w2:=R.get (Jy r2) (by omega);have w3:=R.get (Jy Q) (by omega);have y3:Ext h h3:=R.ext (x.push _) x.size;simp only[X,w2,L,aW,coreS,aC,af,seval,zCQ];have lb1:=zHI (shN ws) i (shN ws i);have lb2:=zHI (moN ws) i (moN ws i);have V3:=V.n;refine⟨⟨by omega,by omega⟩,by rw[zBS];omega,⟨by omega,by omega⟩,?_⟩;refine Oy w2 (by simp[zCn];omega) fun Y w o=> ?_
  rw[zKJ (by omega)]at w;have z0:=o.get w0 (by omega);have z1:=o.get w1 (by omega);have z3:=o.get w3 (by omega);have z4:=o.get X (by omega);have y4:Ext h Y:=o.ext y3 (by omega);simp only[z3,z4,N,aW,coreS,aC,af,seval,zCQ];refine⟨⟨by omega,by omega⟩,by rw[zBS];omega,⟨by omega,by omega⟩,?_⟩;refine Oy z3 (by simp[zCn];omega) fun h5 B t=> ?_
  rw[zKJ (by omega)]at B;simp only[coreS,aC,af,seval,zCQ];refine⟨by rw[zBS];omega,Zr (by kernel_rfl) ⟨t.ext y4 (by omega),i+1,by omega,rfl,t.get z0 (by omega),t.get z1 (by omega),t.get w (by omega),B⟩ ?_⟩;show n-((i:Int)+1).toNat<n-(i:Int).toNat;omega
 .obtain rfl:i=n:=by omega
  have E:¬((i:Int)<(i:Int)):=by omega
  have V3:=V.n;simp only[he,E,decide_false,coreS,aC,af,seval,zCQ];refine zB7 (by kernel_rfl) zBp (.quiet 0 (.yo 1 2 true false (.one 2 (.one 3 (.fin))) (.quiet 1 (.one 3 (.fin))))) (by kernel_rfl) rfl (by kernel_rfl) ?_;have t1:eD 6 (ldv (shN ws) 6 i)=ldv (shN ws) 6 i:=bI (by rw[zCn];exact bi _);have t2:eD 6 (ldv (moN ws) 6 i)=ldv (moN ws) 6 i:=bI (by rw[zCn];exact bi _);have l1:0+6<=(ldv (shN ws) 6 i).length:=by rw[zCn];omega
  have l2:0+6<=(ldv (moN ws) 6 i).length:=by rw[zCn];omega
  have c1:=LC (c:=ldv (shN ws) 6 i) (ct:=99) (fr:=(0,0)) l1;have U:=LC (c:=ldv (moN ws) 6 i) (ct:=99) (fr:=(0,0)) l2;simp only[LF,t1,t2]at c1 U;have T:∀f:Nat->Nat,splice [.int .i64 0,.int .i64 0,.int .i64 0,.int .i64 0,.int .i64 0,.int .i64 0] 0 (ldv f 6 i)=ldv f 6 i:=fun f=>by
   simp[splice,zCn]
  simp only[r2,c1,coreS,aC,af,seval,drawS,treeS,zCQ];have hl:=bA Q;have L:=LC (c:=ldv (shN ws) 6 i) (ct:=99) (fr:=(0,0)) l1;have N:=LC (c:=ldv (moN ws) 6 i) (ct:=99) (fr:=(0,0)) l2;simp only[LF,t1,t2]at L N;refine Vm ?_ ?_
  .simp only[Q,U,coreS,aC,af,seval,drawS,treeS,zCQ];refine⟨rfl,?_⟩;refine Yf ?_;simp only[O,zCn,zFG,kX,dn,coreS,aC,af,seval,drawS,treeS,zCQ];refine Oy O (by simp[zCn]) fun Y w o=> ?_
   rw[T]at w;refine Yf ?_;have r:=o.get r1 (by omega);simp only[r,zCn,zFG,kX,dn,coreS,aC,af,seval,drawS,treeS,zCQ];refine Oy r (by simp[zCn]) fun h5 B t=> ?_
   rw[T]at B;have D:=t.get w (by omega);refine ZX ?_;simp only[D,B,L,N,coreS,aC,af,seval,zCQ];exact t.ext (o.ext x (by omega)) (by omega)
  .simp only[O,zCn,zFG,kX,dn,coreS,aC,af,seval,drawS,treeS,zCQ];refine Oy O (by simp[zCn]) fun Y w o=> ?_
   rw[T]at w;have r:=o.get r1 (by omega);have r3':=o.get Q (by omega);simp only[r3',U,coreS,aC,af,seval,drawS,treeS,zCQ]
   first|refine⟨fun hh=>by cases hh,?_⟩|skip
   refine Yf ?_;simp only[r,zCn,zFG,kX,dn,coreS,aC,af,seval,drawS,treeS,zCQ];refine Oy r (by simp[zCn]) fun h5 B t=> ?_
   rw[T]at B;have D:=t.get w (by omega);refine ZX ?_;simp only[D,B,L,N,coreS,aC,af,seval,zCQ];exact t.ext (o.ext x (by omega)) (by omega)
end
end Go.Proofs.YtejmkibjpaoahaaGreatDoor.Mo
namespace Go.Eng
open Go
theorem zBq {l:Option Nat}{P:Program}{c:Code}{n:Env->List Deferred->Heap->Prop}{k:aj}{e:Env}{d:List Deferred}{h:Heap}(ws:List Nat)(I:(Nat->Value)->Heap->Prop)
 (H:WP l P c (iC (Pv e d ws I) k) e d h) (Hn:∀g h',I g h'->n (mkE e ws g) d h'):WP l P c (iC n k) e d h:=
 dD (uD (fun t r h' b=>by
  unfold Pv at b;obtain⟨j,o,q⟩:=b;subst j;rw[o];exact Hn _ _ q) (fun _ _ _ _ h=>h)) H
section pureR
variable {P:Program}{k:aj}{d:List Deferred}{h:Heap}
end pureR
end Go.Eng
namespace Go.Proofs.YtejmkibjpaoahaaGreatDoor.Mo
open Go Go.Proofs Go.Eng Go.Run Tab
set_option maxHeartbeats 1000000
def zQu (m:Nat)(h':Eng.Heap)(v w:Value)(S M:Nat):Prop:=∃p q,v= .slice (some ⟨p,0,none⟩) S S/\w= .slice (some ⟨q,0,none⟩) M M/\p≠q/\m<=p/\m<=q/\h'[p]? =some (.cells (eQ S (.int .i64 0)).toArray 3)/\h'[q]? =some (.cells (eQ M (.int .i64 0)).toArray 3)
structure zOK (S M:Int)(ws:List Wn)(h0:Nat)(h':Eng.Heap)(v:Value):Prop where
 ok:∀s m:Nat,S=s->M=m->Vb s m ws->∃p q,v= .tuple #[.slice (some ⟨p,0,none⟩) s s,.slice (some ⟨q,0,none⟩) m m,.int .i64 0]/\p≠q/\h0<=p/\h0<=q/\h'[p]? =some (.cells (ldv (shN ws) s ws.length).toArray 3)/\h'[q]? =some (.cells (ldv (moN ws) m ws.length).toArray 3)
 no:chk S M ws≠0->v= .tuple #[.slice none 0 0,.slice none 0 0,.int .i64 (chk S M ws)]
def zCU:=(aD (aD (aD (aD @zI3 @zD2) (aD @zNw @by3)) (aD (aD @zGx @zGy) (aD @zIt @zDX))) (aD (aD (aD @zOH @zMj) (aD @sz3 @zQc)) (aD (aD @zDf @zMv) (aD @Tryz.underlying29 @Tryz.underlying99))))
theorem zMP {f:Nat->Nat}{S i:Nat}(hS:S<=6):(ldL f 6 i).take S=ldL f S i:=by
 unfold ldL;rw[<-List.map_take,List.take_range,zW hS]
theorem zLl {f:Nat->Nat}{S i:Nat}(hS:S<=6):splice (eQ S (.int .i64 0)) 0 (Eng.ints ((ldL f 6 i).take S))=ldv f S i:=by
 rw[zMP hS];simp[splice,ldv,Eng.ints,ldL]
theorem zOF {h:Eng.Heap}{er:Env}{ty:TypeId}{x y:Operand}{b:Option Addr}{g off n c m c2:Nat}{cur:List Value}{ys:List Int}{K:Value->Eng.Heap->Prop}(hx:ev er x= .slice (some ⟨g,off,none⟩) n c)(hy:ev er y= .slice b m c2)(hb:h[g]? =some (.cells cur.toArray 3 (0,0)))(hl:off+n<=cur.length)(I:eu h b m ys)
 (H:∀h',h'[g]? =some (.cells (splice cur off (Eng.ints (ys.take n))).toArray 3 (0,0))->Upd h h' g->K (.int .i64 (min m n:Nat)) h'):aI aS (.call ⟨.builtin .copy,#[x,y],#[29,29]⟩) ty er h K:=
 Y9 ib ib zDX sz3 hx hy hb hl I H
theorem zN0 (S M:Int)(a:Option Addr)(n c:Nat)(ws:List Wn)(h:Eng.Heap)(hr:Row h a (wsV ws))(hn:n=ws.length)(hl:n<=1000000):
 ak aS 14 #[.agg #[.int .i64 S,.int .i64 M,.slice a n c]] h (fun v h'=>zOK S M ws h.size h' v/\Ext h h'):=by
 (refine Rm Tryz.func14 rfl zPh ?_;simp only[Tryz.ntmps14,Tryz.results14,coreS,U1,splice,aC,af,seval,zCU])
 have x0:Ext h (h.push (.cells #[.int .i64 S,.int .i64 M,.slice a n c] 24)):=(Ext.refl h).push _;refine ak.mono (zM7 S M a n c ws _ (hr.push _) hn hl) ?_;rintro v C ⟨o,⟨s,m,rfl,rfl,V,g,b,rfl,hg,hmb,hgs,hbs⟩|⟨hc,rfl⟩⟩
 .have u:=o.get (jD (h:=h));have D:=x0.trans o;simp only[u,bP,decide_true,coreS,aC,af,seval,zCU];refine ak.mono (zN1 g b s m a n c ws C hg (hr.ext D) hn V) ?_;rintro v e ⟨rfl,j⟩;have Q:=j.get u;have y2:=D.trans j;have X:(ldv (shN ws) 6 n).length=6:=zCn;have Y:(ldv (moN ws) 6 n).length=6:=zCn;have sp:∀f:Nat->Nat,splice [.int .i64 0,.int .i64 0,.int .i64 0,.int .i64 0,.int .i64 0,.int .i64 0] 0 (ldv f 6 n)=ldv f 6 n:=fun f=>by
   simp[splice,zCn]
  simp only[X,Y,zFG,kX,dn,coreS,aC,af,seval,zCU];have p0:((e.push (.cells #[.int .i64 0,.int .i64 0,.int .i64 0,.int .i64 0,.int .i64 0,.int .i64 0] 99)).push (.cells #[.int .i64 0,.int .i64 0,.int .i64 0,.int .i64 0,.int .i64 0,.int .i64 0] 99))[e.size]? =some (.cells #[.int .i64 0,.int .i64 0,.int .i64 0,.int .i64 0,.int .i64 0,.int .i64 0] 99):=pn0;refine Oy p0 (by simp[X]) fun N E u3=> ?_
  rw[sp]at E;have Z:N[e.size+1]? =some (.cells #[.int .i64 0,.int .i64 0,.int .i64 0,.int .i64 0,.int .i64 0,.int .i64 0] 99):=u3.get pn1 (by omega);simp only[Z,X,Y,zFG,kX,dn,coreS,aC,af,seval,zCU];refine Oy Z (by simp[Y]) fun O J u4=> ?_
  rw[sp]at J;have I:=u4.get E (by omega);have x4:Ext e O:=u4.ext (u3.ext (((Ext.refl e).push _).push _) (by omega)) (by omega);have y4:=y2.trans x4;have R:=x4.get Q;clear u3 u4 E p0 Z;have hgl:=bA J;simp only[coreS,aC,af,seval,zCU];refine zBq [9,10,24,25,26,27,28,29] (fun g h'=>zQu O.size h' (g 9) (g 10) s m/\Ext O h') ?_ ?_
  .have V1:=V.s1;have V2:=V.s2;have V3:=V.m1;have V4:=V.m2;refine zB7 (by kernel_rfl) zBc (.quiet 0 (.quiet 1 (.quiet 3 (.quiet 4 (.yo 2 5 true true (.quiet 6 (.keep 5 (.quiet 7 (.fin)))) (.keep 2 (.quiet 6 (.quiet 7 (.fin))))))))) (by kernel_rfl) rfl (by kernel_rfl) ?_;simp only[R,coreS,aC,af,seval,drawS,treeS,zCU];refine Xh fun C o=>⟨?_,?_⟩
   .simp only[lG,coreS,aC,af,seval,drawS,treeS,zCU]
    repeat (first|refine aD (by omega) ?_|refine aD ((Ext.refl _).push _) ?_|refine aD (fun _=>(Ext.refl _).push _) ?_)
    refine YD fun e j=> ?_
    simp only[lG,coreS,aC,af,seval,drawS,treeS,zCU]
    repeat (first|refine aD (by omega) ?_|refine aD ((Ext.refl _).push _) ?_|refine aD (fun _=>(Ext.refl _).push _) ?_)
    refine zAN fun N r=> ?_
    have s2:=j.size;rw[Rh]at s2;have s1:=o.size;simp only[Gd];exact zBX (by kernel_rfl) ⟨⟨C.size,e.size,rfl,rfl,by omega,s1,by omega,r.get (Jy (j.get jD)),r.get jD⟩,((o.push _).trans j).trans (r.zBe)⟩
   .simp only[lG,coreS,aC,af,seval,drawS,treeS,zCU]
    repeat (first|refine aD (by omega) ?_|refine aD ((Ext.refl _).push _) ?_|refine aD (fun _=>(Ext.refl _).push _) ?_)
    refine YD fun e j=> ?_
    simp only[lG,coreS,aC,af,seval,drawS,treeS,zCU]
    repeat (first|refine aD (by omega) ?_|refine aD ((Ext.refl _).push _) ?_|refine aD (fun _=>(Ext.refl _).push _) ?_)
    refine zAN fun N r=> ?_
    have s2:=j.size;rw[Rh]at s2;have s1:=o.size;simp only[Gd];exact zBX (by kernel_rfl) ⟨⟨e.size,C.size,rfl,rfl,by omega,by omega,s1,r.get jD,r.get (Jy (j.get jD))⟩,((o.push _).trans j).trans (r.zBe)⟩
  .rintro e0 h5 ⟨⟨p,q,e4,e5,T,hp,hq,U,W⟩,x5⟩;have V2:=V.s2;have V4:=V.m2;have f3:=x5.get I;have f4:=x5.get J;have z6:(((6:Nat):Int)=((0:Nat):Int))=False:=by simp
   have f6:(((6:Nat):Int)-((0:Nat):Int)).toNat=6:=by decide
   simp only[e4,e5,f3,f4,z6,f6,if_false,coreS,aC,af,Nat.reduceAdd,Nat.reduceSub,Nat.reduceMul,Nat.reduceLeDiff,Int.reduceEq,Nat.reduceEqDiff,zCU];refine⟨by omega,by omega,by omega,by omega,?_⟩;have i1:eu h5 (some ⟨e.size,0,none⟩) 6 (ldL (shN ws) 6 n):=by
    have:=eu.block (xs:=ldL (shN ws) 6 n) f3;rwa[zHG]at this
   refine zOF rfl rfl U (by simp) i1 fun h6 g6 u6=> ?_
   rw[zLl V2]at g6;have t:=u6.get f4 (by omega);have B:=u6.get W (by omega);simp only[t,z6,f6,if_false,coreS,aC,af,Nat.reduceAdd,Nat.reduceSub,Nat.reduceMul,Nat.reduceLeDiff,Int.reduceEq,Nat.reduceEqDiff,zCU];refine⟨by omega,by omega,by omega,by omega,?_⟩;have i2:eu h6 (some ⟨e.size+1,0,none⟩) 6 (ldL (moN ws) 6 n):=by
    have:=eu.block (xs:=ldL (moN ws) 6 n) t;rwa[zHG]at this
   refine zOF rfl rfl B (by simp) i2 fun h7 g7 u7=> ?_
   rw[zLl V4]at g7;have L:=u7.get g6 (by omega);simp only[coreS,aC,af,seval,zCU];have sz:=y4.size;refine⟨⟨fun s' m' hs hm V'=> ?_,fun w=>absurd V.chk w⟩,u7.ext (u6.ext (y4.trans x5) (by omega)) (by omega)⟩;obtain rfl:s=s':=by omega
   obtain rfl:m=m':=by omega
   subst hn;exact⟨p,q,rfl,T,by omega,by omega,L,g7⟩
 .have D:=x0.trans o;simp only[hc,decide_false,bJ,coreS,aC,af,seval,zCU];refine⟨⟨fun s' m' hs hm V'=> ?_,fun w=>rfl⟩,D⟩;subst hs hm;exact absurd V'.chk hc
end Go.Proofs.YtejmkibjpaoahaaGreatDoor.Mo
namespace Go.Proofs.YtejmkibjpaoahaaGreatDoor
namespace LS
section
variable {A:Nat}{f:Nat->Nat}
def sm (f:Nat->Int):Nat->Int
 |0=>0
 |n+1=>sm f n+f n
theorem zDZ {f g:Nat->Int}:∀{n:Nat},(∀i,i<n->f i=g i)->sm f n=sm g n
 |0,_=>rfl
 |n+1,h=>by rw[sm,sm,zDZ fun i b=>h i (by omega),h n (by omega)]
theorem zEY (f g:Nat->Int):∀n,sm (fun i=>f i+g i) n=sm f n+sm g n
 |0=>rfl
 |n+1=>by rw[sm,sm,sm,zEY f g n];omega
theorem zEf (a:Nat)(x:Int):∀n,sm (fun i=>if i=a then x else 0) n=if a<n then x else 0
 |0=>rfl
 |n+1=>by
  rw[sm,zEf a x n];by_cases h:n=a
  .subst h;rw[if_neg (by omega),if_pos rfl,if_pos (by omega)];omega
  .rw[if_neg h];by_cases b:a<n
   .rw[if_pos b,if_pos (by omega)];omega
   .rw[if_neg b,if_neg (by omega)];omega
theorem zFk {f:Nat->Int}{n:Nat}(h:∀i,i<n->f i=0):sm f n=0:=by
 rw[zDZ (g:=fun _=>0) h];induction n with
 |zero=>rfl
 |succ n ih=>rw[sm,ih fun i b=>h i (by omega)];rfl
structure P where
 a:Nat
 b:Nat
 x:Int
def give (l:Nat->Int)(p:P):Nat->Int:=fun i=>l i-(if i=p.a then p.x else 0)+if i=p.b then p.x else 0
def cs (f:Nat->Nat)(A r:Nat)(l:Nat->Int):Int:=sm (fun i=>if f i=r then l i else 0) A
theorem zEL:∀{l m:List Nat},l.Nodup->(∀x∈l,x∈m)->l.length<=m.length
 |[],_,_,_=>by simp
 |x::l,m,hn,h=>by
  obtain⟨j,n⟩:=mJ.1 hn;have o:=zEL (l:=l) (m:=m.erase x) n (fun y g=>(sS (fun e=>j (by rw[<-e];exact g))).2 (h y (bD _ g)));have b:=h x bE;rw[rf b]at o;have q:=List.length_pos_of_mem b;rw[aZ];omega
end
end LS
end Go.Proofs.YtejmkibjpaoahaaGreatDoor
namespace Go.Proofs.YtejmkibjpaoahaaGreatDoor
namespace LS
section
variable {i k x y:Nat}{z:Nat->Prop}
theorem zF5 (x y:Nat):(x&&&y)/2=x/2&&&y/2:=by
 apply dG;intro i;rw[eO,ol,ol,ol,eO]
theorem zG1 (x y:Nat):(x&&&y)% 2=x % 2*(y % 2):=by
 have h:=eO x y 0;rw[rT,rT,rT]at h;rcases dM x with b|b<;>rcases dM y with e|e<;>rcases dM (x&&&y)with g|g<;>rw[b,e,g]at h<;>rw[b,e,g]<;>simp at h
theorem zHk:∀(q p l:Nat),q&&&l=q->p&&&l=p->q<p->q<=(p-1)&&&l:=fun q=>by
 induction q using AA with
 |ind q ih=>
  intro p l B w v;by_cases C:q=0
  .omega
  have j:=zF5 q l;have n:=zG1 q l;have b:=zF5 p l;have r:=zG1 p l;rw[B]at j n;rw[w]at b r;have o:=zF5 (p-1) l;have t:=zG1 (p-1) l;rcases dM p with g|g
  .have e:(p-1)/2=p/2-1:=by omega
   have u:(p-1)% 2=1:=by omega
   rw[e]at o;rw[u,Nat.one_mul]at t;have D:=ih (q/2) (by omega) (p/2) (l/2) j.symm b.symm (by omega);have E:q % 2<=l % 2:=by
    rcases dM l with h|h
    .rw[h,Nat.mul_zero]at n;omega
    .omega
   omega
  .have e:(p-1)/2=p/2:=by omega
   rw[e,<-b]at o;omega
theorem zJs (p l:Nat):((p-1)&&&l)&&&l=(p-1)&&&l:=by rw[FX,Nat.and_self]
theorem zNc {p l:Nat}(hp:0<p):(p-1)&&&l<p:=by
 have:(p-1)&&&l<=p-1:=KW;omega
inductive Gr (z:Nat->Prop):Nat->Nat->Prop
 |nil:Gr z 0 0
 |cons (p r k:Nat):z p->p≠0->p&&&r=0->Gr z r k->Gr z (p|||r) (k+1)
theorem zDb (h:x&&&y=0)(i:Nat):¬(x.testBit i=true/\y.testBit i=true):=fun⟨b,e⟩=>by
 have:=congrArg (fun n=>n.testBit i) h;simp only[eO,b,e,kS,Bool.and_self]at this;cases this
theorem zDl (h:∀i,¬(x.testBit i=true/\y.testBit i=true)):x&&&y=0:=by
 apply dG;intro i;rw[eO,kS];have:=h i;cases hx:x.testBit i<;>cases hy:y.testBit i<;>simp_all
theorem Gr.first {s:Nat}(h:Gr z s k)(hi:s.testBit i=true):∃p r k',s=p|||r/\p&&&r=0/\z p/\p.testBit i=true/\Gr z r k'/\k=k'+1:=by
 induction h with
 |nil=>rw[kS]at hi;cases hi
 |cons p r k hz hp hd hr ih=>
  by_cases g:p.testBit i=true
  .exact⟨p,r,k,rfl,hd,hz,g,hr,rfl⟩
  .have B:r.testBit i=true:=by
    rw[bM]at hi;cases q:p.testBit i with
    |true=>exact absurd q g
    |false=>rw[q]at hi;simpa using hi
   obtain⟨D,o,k',e,u,C,v,w,E⟩:=ih B;have n:∀j,¬(p.testBit j=true/\(D|||o).testBit j=true):=fun j=>by rw[<-e];exact zDb hd j
   have q:p&&&o=0:=zDl fun j b=>n j ⟨b.1,by rw[bM,b.2,Bool.or_true]⟩
   refine⟨D,p|||o,k'+1,?_,?_,C,v,.cons p o k' hz hp q w,by omega⟩
   .rw[e];apply dG;intro j;simp only[bM];cases p.testBit j<;>cases D.testBit j<;>cases o.testBit j<;>rfl
   .refine zDl fun j b=> ?_
    rw[bM,ed]at b;rcases b.2 with t|t
    .exact n j ⟨t,by rw[bM,b.1,Bool.true_or]⟩
    .exact zDb u j ⟨b.1,t⟩
structure Most (z:Nat->Prop)(s k:Nat):Prop where
 le:∀j,Gr z s j->j<=k
 is:k=0\/Gr z s k
theorem Gr.zero (h:Gr z 0 k):k=0:=by
 generalize hs:(0:Nat)=s at h;cases h with
 |nil=>rfl
 |cons p r k hz hp hd hr=>
  exfalso;have:p<=p|||r:=Nat.left_le_or;omega
theorem zKx (z:Nat->Prop):Most z 0 0:=⟨fun j h=>by rw[h.zero];exact bi _,.inl rfl⟩
theorem zKw {s:Nat}(hs:s.testBit i=true)(hle:∀p r j,s=p|||r->p&&&r=0->z p->p.testBit i=true->Gr z r j->j+1<=k)(his:k=0\/∃p r j,s=p|||r/\p&&&r=0/\z p/\p≠0/\Gr z r j/\k=j+1):Most z s k:=by
 refine⟨fun j h=> ?_,?_⟩
 .obtain⟨p,r,t,e,q,b,g,n,o⟩:=h.first hs;have:=hle p r t e q b g n;omega
 .rcases his with h|⟨p,r,j,rfl,b,g,n,o,rfl⟩
  .exact .inl h
  .exact .inr (.cons p r j g n b o)
end
end LS
end Go.Proofs.YtejmkibjpaoahaaGreatDoor
namespace Go.Proofs.YtejmkibjpaoahaaGreatDoor
namespace LS
def msk (P:Nat->Bool):Nat->Nat
 |0=>0
 |n+1=>msk P n|||if P n then 2^n else 0
theorem zCl (P:Nat->Bool):∀(n i:Nat),(msk P n).testBit i=(decide (i<n)&&P i)
 |0,i=>by rw[msk,kS];simp
 |n+1,i=>by
  rw[msk,bM,zCl P n i];have g:(if P n then 2^n else 0).testBit i=(decide (i=n)&&P n):=by
   cases h:P n with
   |true=>
    rw[if_pos rfl,vk,Bool.and_true];exact decide_eq_decide.2 ⟨fun e=>e.symm,fun e=>e.symm⟩
   |false=>rw[if_neg (by decide),kS,Bool.and_false]
  rw[g];by_cases e:i=n
  .subst e;simp
  .have b:decide (i<n+1)=decide (i<n):=decide_eq_decide.2 ⟨fun h=>by omega,fun h=>by omega⟩;rw[b,decide_eq_false e];simp
def zero (l:Nat->Int)(A s:Nat):Prop:=sm (fun i=>if s.testBit i then l i else 0) A=0
def opn (l:Nat->Int)(i:Nat):Bool:= !decide (l i=0)
def opens (l:Nat->Int)(A:Nat):Nat:=((bn A).filter (opn l)).length
end LS
namespace LS
def Pt (z:Nat->Prop):Nat->List Nat->Prop
 |s,[]=>s=0
 |s,p::ps=>∃r,s=p|||r/\p&&&r=0/\z p/\p≠0/\Pt z r ps
theorem Pt.gr {z:Nat->Prop}:∀{ps:List Nat} {s:Nat},Pt z s ps->Gr z s ps.length
 |[],s,h=>by
  have h:s=0:=h;rw[h];exact .nil
 |p::ps,s,⟨r,h1,h2,h3,h4,h5⟩=>by
  rw[h1];exact .cons p r _ h3 h4 h2 (Pt.gr h5)
theorem Pt.split {z:Nat->Prop}:∀{ps:List Nat} {s p q q':Nat},Pt z s ps->p∈ps->p=q|||q'->q&&&q'=0->z q->z q'->q≠0->q'≠0->Gr z s (ps.length+1)
 |[],_,_,_,_,_,h,_,_,_,_,_,_=>absurd h List.not_mem_nil
 |x::ps,s,p,q,q',⟨r,h1,h2,h3,h4,h5⟩,n,e,hd,hz,hz',hq,hq'=>by
  rcases cK.1 n with u|n
  .subst u;have j:=fun i=>zDb h2 i
   have o:q'&&&r=0:=zDl fun i g=>j i ⟨by rw[e,bM,g.1,Bool.or_true],g.2⟩
   have t:q&&&(q'|||r)=0:=zDl fun i g=>by
    have b:=g.2;rw[bM,ed]at b;rcases b with b|b
    .exact zDb hd i ⟨g.1,b⟩
    .exact j i ⟨by rw[e,bM,g.1,Bool.true_or],b⟩
   have:=Gr.cons q (q'|||r) _ hz hq t (.cons q' r _ hz' hq' o (Pt.gr h5));rw[h1,e,Nat.or_assoc];exact this
  .rw[h1];exact .cons x r _ h3 h4 h2 (Pt.split h5 n e hd hz hz' hq hq')
theorem Pt.whole {z:Nat->Prop}{ps:List Nat}{s p q q':Nat}(h:Pt z s ps)(hm:Most z s ps.length)(hp:p∈ps)(e:p=q|||q')(hd:q&&&q'=0)(hz:z q)(hz':z q')(hq:q≠0)(hq':q'≠0):False:=by
 have:=hm.le _ (h.split hp e hd hz hz' hq hq');omega
def pay (a b:Nat)(x:Int):P:=if x<0 then⟨b,a,-x⟩else⟨a,b,x⟩
def chn (l:Nat->Int):Nat->Int->List Nat->List P
 |_,_,[]=>[]
 |a,x,b::bs=>pay a b x::chn l b (x+l b) bs
theorem zGq (l:Nat->Int):∀(a:Nat) (x:Int) (bs:List Nat),(chn l a x bs).length=bs.length
 |_,_,[]=>rfl
 |a,x,b::bs=>by rw[chn,aZ,aZ,zGq l b]
theorem zME (l:Nat->Int){a b:Nat}(x:Int)(h:a≠b)(i:Nat):give l (pay a b x) i=if i=a then l i-x else if i=b then l i+x else l i:=by
 unfold give pay;split
 .by_cases e:i=a
  .subst e;simp only[if_true,h,if_false];omega
  .by_cases g:i=b
   .subst g;simp only[if_true,e,if_false];omega
   .simp only[e,g,if_false];omega
 .by_cases e:i=a
  .subst e;simp only[if_true,h,if_false];omega
  .by_cases g:i=b
   .subst g;simp only[if_true,e,if_false];omega
   .simp only[e,g,if_false];omega
def tot (l:Nat->Int):List Nat->Int
 |[]=>0
 |b::bs=>l b+tot l bs
theorem zGJ (l:Nat->Int):∀(bs:List Nat) (a:Nat) (x:Int) (c:Nat->Int),(a::bs).Nodup->c a=x->(∀i,i∈bs->c i=l i)->x+tot l bs=0->∀i,(chn l a x bs).foldl give c i=if i∈a::bs then 0 else c i
 |[],a,x,c,_,ha,_,h0,i=>by
  rw[chn,List.foldl_nil];rw[tot]at h0;by_cases h:i=a
  .subst h;rw[if_pos bE,ha];omega
  .rw[if_neg (by simpa using h)]
 |b::bs,a,x,c,hn,ha,hb,h0,i=>by
  obtain⟨u,v⟩:=mJ.1 hn;have o:a≠b:=fun e=>u (e▸bE)
  obtain⟨E,_⟩:=mJ.1 v;rw[tot]at h0;have r:=zME c x o;have B:=zGJ l bs b (x+l b) (give c (pay a b x)) v (by rw[r,if_neg o.symm,if_pos rfl,hb b bE];omega) (fun j t=>by
   have C:j≠a:=fun e=>u (e▸bD _ t)
   have D:j≠b:=fun e=>E (e▸t)
   rw[r,if_neg C,if_neg D,hb j (bD _ t)]) (by omega) i
  rw[chn,zR,B];by_cases g:i∈b::bs
  .rw[if_pos g,if_pos (bD _ g)]
  .rw[if_neg g,r];by_cases q:i=a
   .subst q;rw[if_pos rfl,if_pos bE,ha];omega
   .have w:i≠b:=fun e=>g (e▸bE)
    rw[if_neg q,if_neg w,if_neg];rintro n;rcases cK.1 n with n|n
    .exact q n
    .exact g n
end LS
namespace LS
section
variable {best i k p s:Nat}{z:Nat->Prop}
theorem zNe (x y:Nat):(x|||y)/2=x/2|||y/2:=by
 apply dG;intro i;rw[bM,ol,ol,ol,bM]
theorem zPQ (x y:Nat):(x|||y)% 2=max (x % 2) (y % 2):=by
 have h:=bM x y 0;rw[rT,rT,rT]at h;rcases dM x with b|b<;>rcases dM y with e|e<;>rcases dM (x|||y)with g|g<;>rw[b,e,g]at h<;>rw[b,e,g]<;>simp at h<;>decide
theorem zJh:∀(p r:Nat),p&&&r=0->p|||r=p+r:=fun p=>by
 induction p using AA with
 |ind p ih=>
  intro r h;by_cases n:p=0
  .subst n;rw[Nat.zero_or,kY]
  have g:=zF5 p r;have b:=zG1 p r;rw[h]at g b;have j:=zNe p r;have t:=zPQ p r;have o:=ih (p/2) (by omega) (r/2) (by rw[<-g]);rw[o]at j;have q:p % 2=0\/r % 2=0:=by
   rcases dM p with e|e
   .exact .inl e
   .rw[e,Nat.one_mul]at b;exact .inr b.symm
  have u:max (p % 2) (r % 2)=p % 2+r % 2:=by rcases q with h|h<;>rw[h]<;>omega
  omega
theorem zFJ (h:p&&&s=p):s=p|||(s-p)/\p&&&(s-p)=0:=by
 obtain⟨r,j⟩:∃r,r=s^^^p:=⟨_,rfl⟩;have g:∀i,p.testBit i=true->s.testBit i=true:=fun i b=>by
  rw[<-h,eO,aY]at b;exact b.2
 have e:p&&&r=0:=zDl fun i b=>by
  rw[j,Lj,g i b.1,b.1]at b;exact Bool.noConfusion b.2
 have n:s=p|||r:=by
  apply dG;intro i;rw[bM,j,Lj];have:=g i;cases hp:p.testBit i<;>cases hs:s.testBit i<;>simp_all
 have q:=zJh p r e;have o:r=s-p:=by omega
 rw[<-o];exact⟨n,e⟩
theorem rest_of {r:Nat}(h:s=p|||r)(hd:p&&&r=0):r=s-p/\p&&&s=p:=by
 have b:=zJh p r hd;refine⟨by omega,?_⟩;apply dG;intro i;rw[h,eO,bM];cases p.testBit i<;>rfl
structure Loop (z:Nat->Prop)(s i part best:Nat):Prop where
 in_:part&&&s=part
 le:∀q j,part<q->q&&&s=q->z q->q.testBit i=true->Gr z (s-q) j->j+1<=best
 is:best=0\/∃q j,q&&&s=q/\z q/\q≠0/\Gr z (s-q) j/\best=j+1
theorem Loop.start (z:Nat->Prop)(s i:Nat):Loop z s i s 0:=⟨Nat.and_self s,fun q j h b=>by
 have:q&&&s<=s:=ui;omega,.inl rfl⟩
theorem Loop.skip {part:Nat}(L:Loop z s i part best)(h0:0<part)(h:z part->part.testBit i=true->False):Loop z s i ((part-1)&&&s) best:=⟨zJs _ _,fun q j t b g n o=>by
 by_cases e:q=part
 .subst e;exact(h g n).elim
 .by_cases r:part<q
  .exact L.le q j r b g n o
  .have:=zHk q part s b L.in_ (by omega);omega,L.is⟩
theorem Loop.take {part:Nat}(L:Loop z s i part best)(h0:0<part)(hz:z part)(hk:Most z (s-part) k)(hk2:k≠0\/Gr z (s-part) 0):Loop z s i ((part-1)&&&s) (max best (1+k)):=⟨zJs _ _,fun q j v g r t n=>by
 by_cases e:q=part
 .subst e;have:=hk.le j n;omega
 .by_cases u:part<q
  .have:=L.le q j u g r t n;omega
  .have:=zHk q part s g L.in_ (by omega);omega,by
 have o:Gr z (s-part) k:=by
  rcases hk.is with h|h
  .subst h;rcases hk2 with h|h
   .exact absurd rfl h
   .exact h
  .exact h
 rcases L.is with h|⟨q,j,a,b,c,d,e⟩
 .exact .inr ⟨part,k,L.in_,hz,by omega,o,by omega⟩
 .by_cases w:best<=1+k
  .exact .inr ⟨part,k,L.in_,hz,by omega,o,by omega⟩
  .exact .inr ⟨q,j,a,b,c,d,by omega⟩⟩
theorem Loop.fin (L:Loop z s i 0 best)(hs:s.testBit i=true):Most z s best:=by
 refine zKw hs (fun p r j e u v o t=> ?_) ?_
 .obtain⟨g,n⟩:=rest_of e u;rw[g]at t;have:p≠0:=fun e=>by rw[e,kS]at o;cases o
  exact L.le p j (by omega) n v o t
 .rcases L.is with h|⟨q,j,a,b,c,d,e⟩
  .exact .inl h
  .obtain⟨g,n⟩:=zFJ a;exact .inr ⟨q,s-q,j,g,n,b,c,d,e⟩
theorem zJA (h:Most z s k)(hz:z s)(hs:s≠0):k≠0:=by
 have b:Gr z (s|||0) (0+1):= .cons s 0 0 hz hs (Nat.and_zero s) .nil;rw[Nat.or_zero]at b;have:=h.le _ b;omega
theorem zJJ (l:Nat->Int)(A:Nat){r:Nat}(hd:p&&&r=0):sm (fun i=>if(p|||r).testBit i then l i else 0) A=sm (fun i=>if p.testBit i then l i else 0) A+sm (fun i=>if r.testBit i then l i else 0) A:=by
 rw[<-zEY];refine zDZ fun i _=> ?_
 have:=zDb hd i;rw[bM];cases hp:p.testBit i<;>cases hr:r.testBit i
 .simp
 .simp
 .simp
 .exact absurd ⟨hp,hr⟩ this
theorem zHy {l:Nat->Int}{A:Nat}(h:p&&&s=p)(hs:zero l A s)(hp:zero l A p):zero l A (s-p):=by
 obtain⟨b,e⟩:=zFJ h;have g:=zJJ l A e;rw[<-b]at g;unfold zero at *;omega
theorem zKv {l:Nat->Int}{A:Nat}(h:Most (zero l A) s k)(hz:zero l A s):k≠0\/Gr (zero l A) s 0:=by
 by_cases b:s=0
 .rw[b];exact .inr .nil
 .exact .inl (zJA h hz b)
end
end LS
end Go.Proofs.YtejmkibjpaoahaaGreatDoor
namespace Go.Proofs.YtejmkibjpaoahaaGreatDoor
namespace LS
section
variable {A:Nat}{f:Nat->Nat}{l:Nat->Int}{s:Nat}
def zCo (F:Nat->Int):List Nat->Int
 |[]=>0
 |x::l=>F x+zCo F l
theorem zHh {F:Nat->Int}{l k:List Nat}(h:l.Perm k):zCo F l=zCo F k:=by
 induction h with
 |nil=>rfl
 |cons x _ ih=>rw[zCo,zCo,ih]
 |swap x y l=>simp only[zCo];omega
 |trans _ _ h1 h2=>exact h1.trans h2
theorem zDr (F:Nat->Int):∀l k:List Nat,zCo F (l++k)=zCo F l+zCo F k
 |[],k=>by simp[zCo]
 |x::l,k=>by rw[dC,zCo,zCo,zDr F l k];omega
theorem zFj (F:Nat->Int):∀A,sm F A=zCo F (bn A)
 |0=>rfl
 |A+1=>by rw[sm,rA,zDr,zFj F A];simp[zCo]
theorem zHL (F:Nat->Int)(f:Nat->Nat):∀l:List Nat,zCo F (l.map f)=zCo (fun x=>F (f x)) l
 |[]=>rfl
 |x::l=>by rw[iq,zCo,zCo,zHL F f l]
theorem zMa:∀{o F:List Nat},o.Nodup->(∀x,x∈o->x∈F)->F.length=o.length->o.Perm F
 |[],F,_,_,h=>by
  have:F=[]:=ny (by simpa using h);rw[this]
 |x::o,F,hn,hs,h=>by
  obtain⟨j,n⟩:=mJ.1 hn;have b:=hs x bE;have q:(F.erase x).length=o.length:=by rw[rf b,h,aZ];rfl
  have r:=zMa n (fun y g=>(sS (fun e=>j (by rw[<-e];exact g))).2 (hs y (bD _ g))) q;exact(r.cons x).trans (List.perm_cons_erase b).symm
structure Ren (A:Nat)(f:Nat->Nat):Prop where
 lt:∀i,i<A->f i<A
 inj:∀i k,i<A->k<A->f i=f k->i=k
theorem Ren.perm (R:Ren A f):((bn A).map f).Perm (bn A):=by
 refine zMa ?_ (fun x q=> ?_) (by simp)
 .rw[List.Nodup,rz];exact List.nodup_range.imp_of_mem fun{a b} j n g e=>g (R.inj a b (aX.1 j) (aX.1 n) e)
 .obtain⟨i,o,rfl⟩:=bz.1 q;exact aX.2 (R.lt i (aX.1 o))
theorem Ren.sum (R:Ren A f)(F:Nat->Int):sm (fun i=>F (f i)) A=sm F A:=by
 rw[zFj,zFj,<-zHL,zHh R.perm]
def low (A s:Nat):Prop:=∀i,s.testBit i=true->i<A
end
end LS
end Go.Proofs.YtejmkibjpaoahaaGreatDoor
namespace Go.Proofs.YtejmkibjpaoahaaGreatDoor
open Go Go.Proofs Go.Eng
theorem zGH {n:Int}(h:InK .i64 n):IntKind.i64.wrap n=n:=jI h
theorem zFz (a b:Nat)(ha:a<1000000)(hb:b<1000000):nP .and .i64 (a:Int) (b:Int)=((a&&&b:Nat):Int):=by
 have e:a&&&b<=a:=KW;unfold nP;show IntKind.i64.wrap ((xI 64 (a:Int)&&&xI 64 (b:Int)).toNat:Int)=_;rw[IA,nX,nX,qb,qb,pz (by omega),pz (by omega)];exact zGH (by rw[zBS];omega)
theorem zMC (a b:Nat)(ha:a<2^20)(hb:b<2^20):nP .or .i64 (a:Int) (b:Int)=((a|||b:Nat):Int):=by
 have e:a|||b<2^20:=Nat.or_lt_two_pow ha hb;unfold nP;show IntKind.i64.wrap ((xI 64 (a:Int)|||xI 64 (b:Int)).toNat:Int)=_;rw[BitVec.toNat_or,nX,nX,qb,qb,pz (by omega),pz (by omega)];exact zGH (by rw[zBS];omega)
theorem zKi (a b:Nat)(ha:a<1000000)(h:b&&&a=b):nP .andNot .i64 (a:Int) (b:Int)=((a-b:Nat):Int):=by
 have v:b<=a:=by rw[<-h];exact ui
 obtain⟨o,q⟩:=LS.zFJ h;have g:a&&&(2^64-1-b)=a-b:=by
  apply dG;intro i;have r:(2^64-1-b).testBit i=(decide (i<64)&& !b.testBit i):=by
   have:=Nat.testBit_two_pow_sub_succ (x:=b) (n:=64) (by omega) i;rw[show 2^64-1-b=2^64-(b+1) by omega];exact this
  have e:a.testBit i=(b.testBit i||(a-b).testBit i):=by
   conv=>lhs;rw[o]
   rw[bM]
  have t:=LS.zDb q i;have u:a.testBit i=true->i<64:=fun j=>by
   refine Classical.byContradiction fun w=> ?_
   have:a<2^i:=rX (by omega:a<2^64) (sW (by decide) (by omega));rw[Nat.testBit_lt_two_pow this]at j;cases j
  rw[eO,r];cases hb1:b.testBit i with
  |true=>
   cases hr:(a-b).testBit i with
   |true=>exact absurd ⟨hb1,hr⟩ t
   |false=>simp
  |false=>
   rw[hb1,Bool.false_or]at e;cases hr:(a-b).testBit i with
   |true=>
    rw[hr]at e;simp[e,u e]
   |false=>
    rw[hr]at e;simp[e]
 unfold nP;show IntKind.i64.wrap ((xI 64 (a:Int)&&& ~~~xI 64 (b:Int)).toNat:Int)=_;rw[IA,BitVec.toNat_not,nX,nX,qb,qb,pz (by omega),pz (by omega),g];exact zGH (by rw[zBS];omega)
theorem zN2:((bn 256).all fun a=>a==0||(bn 8).any fun i=>decide (nP .and .i64 (a:Int) (-(a:Int))=((2^i:Nat):Int))&&a.testBit i)=true:=by kernel_rfl
theorem zN3 {a:Nat}(h0:a≠0)(ha:a<256):∃i,i<8/\nP .and .i64 (a:Int) (-(a:Int))=((2^i:Nat):Int)/\a.testBit i=true:=by
 have h:=eB.1 zN2 a (aX.2 ha);rw[ed,beq_iff_eq]at h;rcases h with h|h
 .exact absurd h h0
 obtain⟨i,b,h⟩:=List.any_eq_true.1 h;rw[aY,decide_eq_true_eq]at h;exact⟨i,aX.1 b,h.1,h.2⟩
theorem zJt (p i:Nat):p&&&2^i=if p.testBit i then 2^i else 0:=by
 apply dG;intro j;rw[eO,vk];by_cases h:i=j
 .subst h;cases hp:p.testBit i<;>simp
 .cases hp:p.testBit i<;>simp[h,vk]
theorem zKh (a j:Nat)(ha:a<1000000):nP .and .i64 ((a:Int)/2^j) 1=if a.testBit j then 1 else 0:=by
 have b:(a:Int)/2^j=((a/2^j:Nat):Int):=by
  rw[Int.natCast_ediv,Int.natCast_pow];rfl
 have n:a/2^j<=a:=Nat.div_le_self _ _;have e:=zFz (a/2^j) 1 (by omega) (by omega);rw[b,show(1:Int)=((1:Nat):Int)from rfl,e,Nat.and_one_is_mod];have g:a.testBit j=decide (a/2^j % 2=1):=Nat.testBit_eq_decide_div_mod_eq;rw[g];by_cases h:a/2^j % 2=1
 .rw[h];simp
 .have:a/2^j % 2=0:=by omega
  rw[this];simp
end Go.Proofs.YtejmkibjpaoahaaGreatDoor
namespace Go.Proofs.YtejmkibjpaoahaaGreatDoor
open Go Go.Proofs Go.Eng Go.Run Tab
section
variable {K:Value->Eng.Heap->Prop}{h:Eng.Heap}
set_option maxHeartbeats 2000000
def zCh:=(aD (aD (aD @zFp @by3) (aD @zGA @zDX)) (aD (aD @zHs @sz3) (aD @zDf (aD @Tryz.underlying29 @Tryz.underlying103))))
def zDu:=(aD (aD @zD2 @zIK) (aD @zDX @sz3))
theorem zJ9 {P:Program}{t el:TypeId}{len:Nat}(hu:P.underlying t=some (.array len el))(ha:zF P el=some false)(hi:(P.info? el).isSome=true)(hs:szT P el=1){x i:Operand}{cs:List Value}{j:Nat}{u:Value}{ty:TypeId}{er:Eng.Env}(hx:ev er x= .agg cs.toArray)(hj:ev er i= .int .i64 j)(hl:j<len)(hc:cs[j]? =some u)(H:K u h):aI P (.index t x i) ty er h K:=by
 obtain⟨e,b⟩:=Option.isSome_iff_exists.1 hi;have g:e.size=1:=by simpa[szT,b]using hs
 obtain⟨v,n,o⟩:=Ar (P:=P) (t:=el) (cs:=cs.toArray) (off:=j*e.size) (h:=h) (K:=fun v _=>v=u) (by
  rw[g,Nat.mul_one];simp only[nT,ha,dn,hc,onV])
 subst n;refine aK rfl _ H fun w _=> ?_
 have q:(0:Int)<=(j:Int)/\(j:Int)<len:=⟨by omega,by omega⟩;simp[execOp,Instr.index,hx,hj,asIntOf,run_underlying hu,q,sizeOf,typeInfo,b,o];intro r;omega
theorem zE2 {cs:Array Value}{q:IntKind}{n:Int}{m:Nat}{el:TypeId}{F:Prop}:Ct (.agg cs) (.int q n) (some (.array m el)) h K F=F:=by unfold Ct;rfl
def nz (l:List Nat):List Int:=l.map fun j:Nat=>(j:Int)
theorem zDS (l:List Nat):(nz l).length=l.length:=by simp[nz]
theorem zEW {l:List Nat}{i:Nat}:(nz l).getD i 0=((l.getD i 0:Nat):Int):=by
 simp only[nz,aN,kV];cases l[i]? <;>rfl
theorem zKN (l:List Nat)(i:Nat):nz l++[(i:Int)]=nz (l++[i]):=by simp[nz]
theorem zJu {er:Env}{ty:TypeId}{m0:Nat}{x y:Operand}{a b:Option Addr}{len cap m c:Nat}{xs ys:List Int}(hx:ev er x= .slice a len cap)(hy:ev er y= .slice b m c)(O:eG m0 h 3 a len cap xs)(h0h:m0<=h.size)(I:eu h b m ys)(hb:len+m<=100000)(H:∀a' cap' h',eG m0 h' 3 a' (len+m) cap' (xs++ys)->App h h' a a'->K (.slice a' (len+m) cap') h'):aI aS (.call ⟨.builtin .append,#[x,y],#[29,29]⟩) ty er h K:=
 WW ib ib zDX sz3 (by rw[by3];decide) zDf hx hy O h0h I hb H
theorem zMG (s i:Nat)(hs:s<1000000)(hi:i<8)(h:Eng.Heap):ak aS 109 #[.agg #[.int .i64 s],.int .i64 i] h (fun v h'=>v= .bool (s.testBit i)/\Ext h h'):=by
 (refine Rm Tryz.func109 rfl zOY ?_;simp only[Tryz.ntmps109,Tryz.results109,coreS,U1,splice,aC,af,seval,zDu])
 have b:=zKh s i hs;simp only[aW,b];refine⟨by omega,by simp[IntKind.bits];omega,?_,(Ext.refl h).push _⟩;cases s.testBit i<;>rfl
def zDc (xs:List Int)(k:Nat):List Nat:=(bn k).filter fun i=> !decide (xs.getD i 0=0)
theorem zHl (xs:List Int)(k:Nat):zDc xs (k+1)=zDc xs k++if xs.getD k 0=0 then[]else[k]:=by
 unfold zDc;simp only[rA,List.filter_append,List.filter_cons,List.filter_nil];congr 1;by_cases h:xs.getD k 0=0<;>simp[h]
theorem zFi (xs:List Int)(k:Nat):(zDc xs k).length<=k:=by
 have:=List.length_filter_le (fun i=> !decide (xs.getD i 0=0)) (bn k);rwa[List.length_range]at this
theorem zM8 (xs:List Int)(hl:xs.length=8)(h:Eng.Heap):ak aS 52 #[.agg (ints xs).toArray] h (fun v h'=>(∃a c,v= .slice a (zDc xs 8).length c/\eG h.size h' 3 a (zDc xs 8).length c (nz (zDc xs 8)))/\Ext h h'):=by
 obtain⟨b,g,n,o,r,t,u,w,rfl⟩:∃b g n o r t u w:Int,xs=[b,g,n,o,r,t,u,w]:=by
  match xs,hl with
  |[b,g,n,o,r,t,u,w],_=>exact⟨b,g,n,o,r,t,u,w,rfl⟩
 obtain⟨xs,O⟩:∃xs,xs=[b,g,n,o,r,t,u,w]:=⟨_,rfl⟩;have Y:(ints xs).toArray= #[.int .i64 b,.int .i64 g,.int .i64 n,.int .i64 o,.int .i64 r,.int .i64 t,.int .i64 u,.int .i64 w]:=by rw[O];rfl
 rw[<-O]at hl ⊢;rw[Y]
 (refine Rm Tryz.func52 rfl zQF ?_;simp only[Tryz.ntmps52,Tryz.results52,coreS,U1,splice,aC,af,seval,zCh])
 have W:Ext h (h.push (.cells #[.int .i64 b,.int .i64 g,.int .i64 n,.int .i64 o,.int .i64 r,.int .i64 t,.int .i64 u,.int .i64 w] 103)):=(Ext.refl h).push _;generalize h.push (.cells #[.int .i64 b,.int .i64 g,.int .i64 n,.int .i64 o,.int .i64 r,.int .i64 t,.int .i64 u,.int .i64 w] 103)=U at W ⊢;refine zAi [3,4,5,7,8,9,10,11,12,13,14,15,16,17] (fun e h'=>Ext U h'/\∃i:Nat,i<=8/\e 7= .int .i64 i/\∃I J,e 3= .slice I (zDc xs i).length J/\eG U.size h' 3 I (zDc xs i).length J (nz (zDc xs i))) (fun e _=>match e 7 with| .int _ q=>8-q.toNat|_=>0) ⟨Ext.refl _,0,by omega,rfl,none,0,rfl,eG.nil _ _ _⟩ ?_;rintro e h1 ⟨R,i,hi,N,I,J,B,T⟩;by_cases hi8:i<8
 .have V:(i:Int)<8:=by omega
  have C:8-((i:Int)+1).toNat<8-(i:Int).toNat:=by omega
  have ce:(ints xs)[i]? =some (.int .i64 (xs.getD i 0)):=Cn _ _ (by omega);have hx:(Value.agg #[.int .i64 b,.int .i64 g,.int .i64 n,.int .i64 o,.int .i64 r,.int .i64 t,.int .i64 u,.int .i64 w])= .agg (ints xs).toArray:=by rw[Y]
  have D:=zHl xs i;have le:=zFi xs i;simp only[N,B,V,zE2,decide_true,aW,coreS,aC,af,seval,zCh];refine zJ9 (j:=i) Tryz.underlying103 zFq zFP sz2 hx rfl (by omega) ce ?_;by_cases Q:xs.getD i 0=0
  .rw[if_pos Q,bK]at D;simp only[N,B,Q,decide_true,bP,coreS,aC,af,seval,zCh];refine⟨by rw[zBS];omega,Zr (by kernel_rfl) ⟨R,i+1,by omega,rfl,I,J,by rw[D];rfl,by rw[D];exact T⟩ C⟩
  .rw[if_neg Q]at D;simp only[N,B,Q,decide_false,bJ,coreS,aC,af,seval,zCh];have E:=T.ext ((Ext.refl h1).push (.cells #[.int .i64 (i:Int)] 3));refine zJu (m0:=U.size) (len:=(zDc xs i).length) (m:=1) (ys:=[(i:Int)]) rfl rfl E (by rw[Rh];have:=R.size;omega) (zDD jD) (by omega) fun a' L h5 X Z=> ?_
   have M:(zDc xs i).length+1=(zDc xs (i+1)).length:=by rw[D];simp
   rw[zKN,<-D,M]at X;simp only[N,coreS,aC,af,seval,zCh];refine⟨by rw[zBS];omega,Zr (by kernel_rfl) ⟨Z.extN E (R.push _) (bi _),i+1,by omega,rfl,a',L,by rw[<-M];rfl,X⟩ C⟩
 obtain rfl:i=8:=by omega
 simp only[N,B,show¬(((8:Nat):Int)<8) by omega,decide_false,coreS,aC,af,seval,zCh];exact⟨⟨I,J,rfl,T.mono W.size⟩,W.trans R⟩
theorem zN4 (a b:Option Addr)(n c m d:Nat)(h:Eng.Heap):ak aS 168 #[.slice a n c,.slice b m d] h (fun v h'=>v= .bool (decide (m<n))/\h'=h):=by
 (refine Rm Tryz.func168 rfl zOc ?_;simp only[Tryz.ntmps168,Tryz.results168,coreS,U1,splice,aC,af,seval,qm])
 congr 1;rw[decide_eq_decide];omega
end
end Go.Proofs.YtejmkibjpaoahaaGreatDoor
namespace Go.Proofs.YtejmkibjpaoahaaGreatDoor
open Go Go.Proofs Go.Eng Go.Run Tab
set_option maxHeartbeats 2000000
def zCe:=(aD (aD @zL0 @zJw) (aD @zIP (aD @zKU @Tryz.underlying244)))
theorem zLI {h:Eng.Heap}{a:Option Addr}{n c lo hi:Nat}{vs:List Value}(I:Row h a vs)(hl:vs.length=n)(h1:lo<=hi)(h2:hi<=n)(h3:n<=c):Row h (if(c:Int)=(lo:Int)then a else lg a lo) ((vs.drop lo).take (hi-lo)):=by
 split
 .rename_i b;have:hi-lo=0:=by omega
  rw[this];exact .inl (by simp)
 .exact I.sub lo (hi-lo) (by omega)
abbrev Hd:=Option Addr×Nat×Nat
def hdV (t:Hd):Value:= .slice t.1 t.2.1 t.2.2
def zDT (T:List Hd):List Value:=T.map hdV
theorem zDC (T:List Hd):(zDT T).length=T.length:=by simp[zDT]
theorem zED {h:Eng.Heap}{a:Option Addr}{T:List Hd}(R:Row h a (zDT T)){j:Nat}(hj:j<T.length):jL h (lg a j)=some (.slice T[j].1 T[j].2.1 T[j].2.2):=by
 have:=R.cell (j:=j) (by rw[zDC];exact hj);rw[this];simp[zDT,hdV]
def upH (o x:Hd):Hd:=if o.2.1<x.2.1 then x else o
theorem zHA:∀(l:List Hd) (o:Hd),o.2.1<=(l.foldl upH o).2.1/\(∀x∈l,x.2.1<=(l.foldl upH o).2.1)/\(l.foldl upH o=o\/l.foldl upH o∈l)
 |[],o=>⟨bi _,by simp,.inl rfl⟩
 |y::l,o=>by
  obtain⟨n,j,b⟩:=zHA l (upH o y);have q:o.2.1<=(upH o y).2.1/\y.2.1<=(upH o y).2.1:=by unfold upH;split<;>omega
  have e:upH o y=o\/upH o y=y:=by unfold upH;split<;>simp
  simp only[zR,cK];refine⟨by omega,fun x g=> ?_,?_⟩
  .rcases g with rfl|g
   .omega
   .exact j x g
  .rcases b with b|b
   .rw[b];rcases e with e|e
    .exact .inl e
    .exact .inr (.inl e)
   .exact .inr (.inr b)
def zNA (T:List Hd):Hd:=(T.drop 1).foldl upH (T.getD 0 (none,0,0))
theorem zNB {T:List Hd}{x:Hd}(hx:x∈T):x.2.1<=(zNA T).2.1:=by
 cases T with
 |nil=>cases hx
 |cons y l=>
  obtain⟨b,e,_⟩:=zHA l y;show x.2.1<=(l.foldl upH y).2.1;rcases cK.1 hx with rfl|hx
  .exact b
  .exact e x hx
theorem zLg {T:List Hd}(h:0<T.length):zNA T∈T:=by
 cases T with
 |nil=>simp at h
 |cons y l=>
  obtain⟨_,_,b⟩:=zHA l y;show l.foldl upH y∈_;rcases b with b|b
  .rw[b];simp
  .exact bD _ b
theorem zMz (a:Option Addr)(n c:Nat)(T:List Hd)(h:Eng.Heap)(R:Row h a (zDT T))(hn:n=T.length)(h1:0<n)(hc:n<=c)(hl:n<=1000000):
 ak aS 167 #[.slice a n c,.func (.func 168) #[] #[]] h (fun v h'=>v=hdV (zNA T)/\h'=h):=by
 (refine Rm Tryz.func167 rfl zOb ?_;simp only[Tryz.ntmps167,Tryz.results167,coreS,U1,splice,aC,af,Nat.reduceAdd,Nat.reduceSub,Nat.reduceMul,Nat.reduceLeDiff,Int.reduceEq,Nat.reduceEqDiff,zCe])
 have Q:=zED R (j:=0) (by omega);have L:=R.isSome (by rw[zDC];omega);have b:=zLI (lo:=1) (hi:=n) (c:=c) R (by rw[zDC,hn]) (by omega) (bi _) hc;have W:((n:Int)-1).toNat=n-1:=by omega
 have X:((c:Int)-1).toNat=c-1:=by omega
 have Z:((zDT T).drop 1).take (n-1)=zDT (T.drop 1):=by
  rw[bI (by rw[List.length_drop,zDC];omega)];simp[zDT]
 rw[Z]at b;obtain⟨O,g⟩:∃O,O=(if(c:Int)=((1:Nat):Int)then a else lg a 1):=⟨_,rfl⟩;have r:(if(c:Int)=1 then a else lg a 1)=O:=by rw[g];rfl
 rw[<-g]at b;have N:T.getD 0 (none,0,0)=T[0]:=by rw[aN,aF (by omega)];rfl
 rw[<-N]at Q;simp only[Q,W,X,r,coreS,aC,af,Nat.reduceAdd,Nat.reduceSub,Nat.reduceMul,Nat.reduceLeDiff,Int.reduceEq,Nat.reduceEqDiff,zCe];refine⟨⟨by omega,by omega⟩,L,by omega,by omega,by omega,by omega,?_⟩;refine zAi [5,7,14,15,16,17,18,19,20,21,22,23] (fun e h'=>h'=h/\∃i:Nat,i<=n-1/\e 14= .int .i64 i/\∃t:Hd,e 5= .slice t.1 t.2.1 t.2.2/\t=((T.drop 1).take i).foldl upH (T.getD 0 (none,0,0))) (fun e _=>match e 14 with| .int _ q=>(n-1)-q.toNat|_=>0) ⟨rfl,0,by omega,rfl,T.getD 0 (none,0,0),rfl,rfl⟩ ?_;rintro e h' ⟨rfl,i,hi,E,t,B,w⟩;have Y:(T.drop 1).length=n-1:=by simp;omega
 by_cases C:i<(T.drop 1).length
 .have J:(i:Int)<((n-1:Nat):Int):=by omega
  have o:(n-1)-((i:Int)+1).toNat<(n-1)-(i:Int).toNat:=by omega
  have U:=zED b C;have M:=b.isSome (by rw[zDC];omega);obtain⟨u,V⟩:∃u,u=(T.drop 1)[i]:=⟨_,rfl⟩;rw[<-V]at U;have D:((T.drop 1).take (i+1)).foldl upH (T.getD 0 (none,0,0))=upH t u:=by
   rw[gY,aF C,List.foldl_append,<-w,<-V];rfl
  simp only[E,B,J,U,decide_true,aW,coreS,aC,af,seval,zCe];refine⟨by omega,M,?_⟩;refine ak.mono (zN4 _ _ _ _ _ _ h') ?_;rintro v h2 ⟨rfl,rfl⟩;by_cases I:t.2.1<u.2.1
  .simp only[I,E,decide_true,coreS,aC,af,seval,zCe];exact⟨by rw[zBS];omega,Zr (by kernel_rfl) ⟨rfl,i+1,by omega,rfl,u,rfl,by rw[D,upH,if_pos I]⟩ o⟩
  .simp only[I,E,decide_false,coreS,aC,af,seval,zCe];exact⟨by rw[zBS];omega,Zr (by kernel_rfl) ⟨rfl,i+1,by omega,rfl,t,rfl,by rw[D,upH,if_neg I]⟩ o⟩
 .obtain rfl:i=n-1:=by omega
  simp only[E,B,show¬(((n-1:Nat):Int)<((n-1:Nat):Int)) by omega,decide_false,coreS,aC,af,seval,zCe];rw[bI (by omega)]at w;rw[w]
  first|exact⟨rfl,trivial⟩|exact⟨rfl,rfl⟩|rfl
end Go.Proofs.YtejmkibjpaoahaaGreatDoor
namespace Go.Proofs.YtejmkibjpaoahaaGreatDoor
open Go Go.Proofs Go.Eng Go.Run Tab
section
variable {K:Value->Eng.Heap->Prop}{h:Eng.Heap}
set_option maxHeartbeats 2000000
def zC1:=(aD (aD @zL0 (aD @zJw @zIP)) (aD @zKU (aD @Tryz.underlying185 @Tryz.underlying244)))
def zCq:=(aD (aD @zI8 @zHE) (aD @zJO @Tryz.underlying185))
theorem zF6 {vs:List Value}{u:Option TypeDesc}{F:Prop}:lZ .cap vs u h K F=F:=by
 unfold lZ;split<;>first|rfl|(rename_i b;cases b)|simp_all
theorem zNC {e:Env}{ty t el:TypeId}(hu:Tryz.prog.underlying t=some (.slice el)){x:Operand}{a:Option Addr}{n c:Nat}(hx:ev e x= .slice a n c)(H:K (.int .i64 c) h):aI aS (.call ⟨.builtin .cap,#[x],#[t]⟩) ty e h K:=
 aK rfl _ H fun w _=>by simp[execOp,resolve,invoke,builtin,hx,Builtin.cap_,goInt,run_underlying hu]
theorem zL4 {er:Env}{ty:TypeId}{m0:Nat}{x y:Operand}{a b:Option Addr}{len cap m c:Nat}{p q:List Nat}(hx:ev er x= .slice a len cap)(hy:ev er y= .slice b m c)(O:iV m0 h 184 1 a len cap (ints (nz p)))(h0h:m0<=h.size)(I:Row h b (ints (nz q)))(hm:m=q.length)(hb:len+m<=1000)(H:∀a' cap' h',iV m0 h' 184 1 a' (len+m) cap' (ints (nz (p++q)))->App h h' a a'->K (.slice a' (len+m) cap') h'):aI aS (.call ⟨.builtin .append,#[x,y],#[185,185]⟩) ty er h K:=
 WZ qm qm zHE zJO zGe (by rfl) hx hy O h0h I (by rw[aR,zDS];omega) (fun u n=>by
  obtain⟨x,_,rfl⟩:=bz.1 n;rfl) (by omega) (by rw[zI8];omega) fun a' cap' h' j g=>H a' cap' h' (by
   have e:ints (nz p)++ints (nz q)=ints (nz (p++q)):=by simp[ints,nz]
   rw[<-e];exact j) g
theorem zNT (k:Nat)(hk:0<k)(hk2:k<=1000)(h:Eng.Heap):ak aS 237 #[.slice none 0 0,.int .i64 k] h (fun v h'=>(∃a cap,v= .slice a 0 cap/\iV h.size h' 184 1 a 0 cap (ints (nz [])))/\Ext h h'):=by
 have h0:¬((k:Nat):Int)<0:=by omega
 have j:(0:Int)<((k:Nat):Int):=by omega
 have n:(k:Int)-0=(k:Nat):=by omega
 (refine Rm Tryz.func237 rfl zOh ?_;simp only[Tryz.ntmps237,Tryz.results237,coreS,U1,splice,aC,af,seval,zCq])
 simp only[h0,j,n,decide_true,decide_false,coreS,aC,af,seval,zCq];rw[zF6];refine zNC qm rfl ?_;have o:(((0:Nat):Int)-((0:Nat):Int))=0:=rfl;have q:((0:Nat):Int)=0:=rfl;simp only[o,n,j,decide_true,coreS,aC,af,seval,zCq];refine⟨by rw[zBS];omega,by rw[zBS];omega,?_⟩;rw[zF6];refine zNC qm rfl ?_;simp only[o,q,n,j,decide_true,coreS,aC,af,Nat.reduceAdd,Nat.reduceSub,Nat.reduceMul,Nat.reduceLeDiff,Int.reduceEq,Nat.reduceEqDiff,zCq];refine⟨by omega,by omega,by omega,by omega,?_⟩;refine Un (h0:=h.size) (s:=1) (len:=0) (cap:=0) (k:=k) (olds:=[]) qm Tryz.underlying3 zHE zJO zGe rfl (by omega) rfl rfl (.inl rfl) rfl hk (by omega) (by omega) (by rw[zI8];omega) (bi _) fun t u J D O x=> ?_
 have r:=O.cap;simp only[o,q,coreS,aC,af,Nat.reduceAdd,Nat.reduceSub,Nat.reduceMul,Nat.reduceLeDiff,Int.reduceEq,Nat.reduceEqDiff,zCq];refine⟨by omega,by omega,by omega,by omega,⟨some ⟨h.size,0,none⟩,t,by simp,?_⟩,x⟩;rcases O.ok with⟨e,_⟩|⟨g,b,e,w,B,C,E,I⟩
 .cases e
 .exact⟨by simp[nz,ints],.inr ⟨g,b,e,w,B,C,by omega,by simp[nz,ints]⟩⟩
theorem zKb (b:Option Addr)(c:Nat)(a1:Option Addr)(n1 c1:Nat)(p:List Nat)(a2:Option Addr)(n2 c2:Nat)(q:List Nat)(h:Eng.Heap)(R:Row h b (zDT [(a1,n1,c1),(a2,n2,c2)]))(R1:Row h a1 (ints (nz p)))(hn1:n1=p.length)(R2:Row h a2 (ints (nz q)))(hn2:n2=q.length)(h1:0<n1)(hl:n1+n2<=900):
 ak aS 166 #[.slice b 2 c] h (fun v h'=>(∃a cap,v= .slice a (n1+n2) cap/\iV 0 h' 184 1 a (n1+n2) cap (ints (nz (p++q))))/\Ext h h'):=by
 have D:=zED R (j:=0) (by simp);have E:=zED R (j:=1) (by simp);have w:=R.isSome (by simp[zDT]);simp only[wF,zM]at D E
 (refine Rm Tryz.func166 rfl zOa ?_;simp only[Tryz.ntmps166,Tryz.results166,coreS,U1,splice,aC,af,Nat.reduceAdd,Nat.reduceSub,Nat.reduceMul,Nat.reduceLeDiff,Int.reduceEq,Nat.reduceEqDiff,zC1])
 refine zAi [3,5,11,12,13,14,15,16,17,18,19,20,21,22] (fun e h'=>h'=h/\((e 11= .int .i64 0/\e 3= .int .i64 0)\/(e 11= .int .i64 1/\e 3= .int .i64 n1)\/(e 11= .int .i64 2/\e 3= .int .i64 ((n1+n2:Nat):Int)))) (fun e _=>match e 11 with| .int _ q=>2-q.toNat|_=>0) ⟨rfl,.inl ⟨rfl,rfl⟩⟩ ?_;rintro e h' ⟨rfl,⟨I,r⟩|⟨I,r⟩|⟨I,r⟩⟩
 .have J:(0:Int)<((2:Nat):Int):=by decide
  have T:¬(0:Int)+(n1:Nat)<0:=by omega
  have U:((0:Int)).toNat=0:=rfl;simp only[I,r,J,T,U,D,decide_true,decide_false,coreS,aC,af,Nat.reduceAdd,Nat.reduceSub,Nat.reduceMul,Nat.reduceLeDiff,Int.reduceEq,Nat.reduceEqDiff,zC1];refine⟨by omega,w,by rw[zBS];omega,by rw[zBS];omega,Zr (by kernel_rfl) ⟨rfl,.inr (.inl ⟨rfl,?_⟩)⟩ ?_⟩
  .show tq .i64 (0+(n1:Int))=_;rw[Int.zero_add]
  .show 2-(0+1:Int).toNat<2-(0:Int).toNat;decide
 .have J:(1:Int)<((2:Nat):Int):=by decide
  have T:¬((n1:Nat):Int)+(n2:Nat)<0:=by omega
  have U:((1:Int)).toNat=1:=rfl;simp only[I,r,J,T,U,E,decide_true,decide_false,coreS,aC,af,Nat.reduceAdd,Nat.reduceSub,Nat.reduceMul,Nat.reduceLeDiff,Int.reduceEq,Nat.reduceEqDiff,zC1];refine⟨by omega,w,by rw[zBS];omega,by rw[zBS];omega,Zr (by kernel_rfl) ⟨rfl,.inr (.inr ⟨rfl,?_⟩)⟩ ?_⟩
  .show tq .i64 ((n1:Int)+(n2:Int))=_;congr 1
  .show 2-(1+1:Int).toNat<2-(1:Int).toNat;decide
 have J:¬(2:Int)<((2:Nat):Int):=by decide
 simp only[I,r,J,decide_false,coreS,aC,af,seval,zC1];refine ak.mono (zNT (n1+n2) (by omega) (by omega) h') ?_;rintro v h1' ⟨⟨a3,c3,rfl,Z⟩,Y⟩;have s3:=Y.size;simp only[coreS,aC,af,Nat.reduceAdd,Nat.reduceSub,Nat.reduceMul,Nat.reduceLeDiff,Int.reduceEq,Nat.reduceEqDiff,zC1];refine zAi [6,8,27,28,29,30,31,32,33,34] (fun e u=>Ext h' u/\((e 27= .int .i64 0/\∃n o,e 6= .slice n 0 o/\iV h'.size u 184 1 n 0 o (ints (nz [])))\/(e 27= .int .i64 1/\∃n o,e 6= .slice n n1 o/\iV h'.size u 184 1 n n1 o (ints (nz p)))\/(e 27= .int .i64 2/\∃n o,e 6= .slice n (n1+n2) o/\iV h'.size u 184 1 n (n1+n2) o (ints (nz (p++q)))))) (fun e _=>match e 27 with| .int _ q=>2-q.toNat|_=>0) ⟨Y,.inl ⟨rfl,a3,c3,rfl,Z⟩⟩ ?_;rintro e4 h4 ⟨B,⟨g,n,o,t,C⟩|⟨g,n,o,t,C⟩|⟨g,n,o,t,C⟩⟩
 .have L:(0:Int)<((2:Nat):Int):=by decide
  have V:((0:Int)).toNat=0:=rfl;have W:=zED (R.ext B) (j:=0) (by simp);simp only[wF]at W;simp only[g,t,L,V,W,decide_true,coreS,aC,af,Nat.reduceAdd,Nat.reduceSub,Nat.reduceMul,Nat.reduceLeDiff,Int.reduceEq,Nat.reduceEqDiff,zC1];refine⟨by omega,w,?_⟩;refine zL4 (m0:=h'.size) (len:=0) (p:=[]) rfl rfl C B.size (R1.ext B) hn1 (by omega) fun O Q h5 M N=> ?_
  rw[kY,bS]at M;rw[kY];simp only[g,coreS,aC,af,seval,zC1];refine⟨by rw[zBS];omega,Zr (by kernel_rfl) ⟨N.extV C B (bi _),.inr (.inl ⟨rfl,O,Q,rfl,M⟩)⟩ ?_⟩;show 2-(0+1:Int).toNat<2-(0:Int).toNat;decide
 .have L:(1:Int)<((2:Nat):Int):=by decide
  have V:((1:Int)).toNat=1:=rfl;have X:=zED (R.ext B) (j:=1) (by simp);simp only[wF,zM]at X;simp only[g,t,L,V,X,decide_true,coreS,aC,af,Nat.reduceAdd,Nat.reduceSub,Nat.reduceMul,Nat.reduceLeDiff,Int.reduceEq,Nat.reduceEqDiff,zC1];refine⟨by omega,w,?_⟩;refine zL4 (m0:=h'.size) (len:=n1) (p:=p) rfl rfl C B.size (R2.ext B) hn2 (by omega) fun O Q h5 M N=> ?_
  simp only[g,coreS,aC,af,seval,zC1];refine⟨by rw[zBS];omega,Zr (by kernel_rfl) ⟨N.extV C B (bi _),.inr (.inr ⟨rfl,O,Q,rfl,M⟩)⟩ ?_⟩;show 2-(1+1:Int).toNat<2-(1:Int).toNat;decide
 .have L:¬(2:Int)<((2:Nat):Int):=by decide
  simp only[g,t,L,decide_false,coreS,aC,af,seval,zC1];exact⟨⟨n,o,rfl,C.mono (Nat.zero_le _)⟩,B⟩
end
end Go.Proofs.YtejmkibjpaoahaaGreatDoor
namespace Go.Proofs.YtejmkibjpaoahaaGreatDoor
open Go Go.Proofs Go.Eng Go.Run Tab
section
variable {a:Option Addr}{c cap:Nat}{h h':Eng.Heap}{len m s:Nat}{z:Nat->Prop}
set_option maxHeartbeats 4000000
def zCO:=(aD (aD (aD (aD @zLZ @zD2) (aD @zI8 @zJw)) (aD (aD @zIK @zIk) (aD @zHE @zIP))) (aD (aD (aD @zDX @zM5) (aD @zJO @zKU)) (aD (aD @sz3 @zGe) (aD @zGf (aD @Tryz.underlying185 @Tryz.underlying244)))))
theorem zMD {P:Program}{s:Tmp}{w:Bool}{op:Op}{ty:TypeId}{all rest:List Oper}{k:aj}{dst:Option Tmp}{e:Env}{d:List Deferred}:gd P undef s w op ty all rest k dst e d h=dN P all rest k (aU e dst undef) d h:=Tc
theorem zIa {P:Program}{f:FuncId}{args:Array Value}{K:Value->Eng.Heap->Prop}(r:Value)(c:ak P f args h (fun v' h''=>v'=r/\h''=h))(H:K r h):cQ P EqH f args h K:=by
 unfold cQ;refine⟨r,fun h' e=> ?_,H⟩;have e:h'=h:=e;subst e;exact c
def kvG (s:Nat):Value:= .agg #[.int .i64 (s:Nat)]
theorem zFe:Keys aS 184 kvG:=by
 refine Keys.flat (ki:=(Pt.pr.ty 184).getD ⟨0,0,.any,.other,[]⟩) (kf:=fun p=> .agg [.int .i64 (p:Nat)]) (by rw[Tryz.underlying184]) (Pt.ok.tf (by kernel_rfl)) (fun p=> ?_) (fun p q=> ?_)
 .simp only[VR];exact⟨_,rfl,by simpa[Eng.ints]using FP (ι:=fun _=>none) [(p:Int)]⟩
 .have b:=EP [(p:Int)] [(q:Int)] rfl;have e:decide ([(p:Int)]=[(q:Int)])=decide (p=q):=by
   rw[decide_eq_decide];simp;omega
  rw[e]at b;exact b
theorem zG8 {el:TypeId}{b:Nat}{vs:List Value}{ents:Array MapEntry}(O:iV m h el s a len cap vs)(hb:h[b]? =some (.map ents c))(x:Chg h h' b):iV m h' el s a len cap vs:=
 O.keep fun p j=>x.old _ (O.lt j).1 fun e=>by
  rcases O.ok with⟨n,_⟩|⟨g,q,n,r,o,_⟩
  .rw[n]at j;cases j
  .rw[n]at j;cases j;have e:g=b:=e;rw[e,hb]at o;cases o
theorem zF1 {m2:Nat}{el el2:TypeId}{s2:Nat}{x x':Option Addr}{len2 cap2:Nat}{vs ws:List Value}(O:iV m h el s a len cap vs)(A:App h h' x x')(P:iV m2 h el2 s2 x len2 cap2 ws)(hne:el≠el2):iV m h' el s a len cap vs:=
 O.keep fun p b=>A.old _ (O.lt b).1 fun q j e=>by
  rcases O.ok with⟨n,_⟩|⟨g,u,n,B,w,_⟩
  .rw[n]at b;cases b
  rcases P.ok with⟨o,_⟩|⟨v,r,o,C,t,_⟩
  .rw[o]at j;cases j
  rw[n]at b;rw[o]at j;cases b;cases j;have e:v=g:=e;rw[e,w]at t;cases t;exact hne rfl
theorem zMF {k:Nat}(h:LS.Gr z s k):k<=s:=by
 induction h with
 |nil=>exact bi _
 |cons p r k hz hp hd hr ih=>rw[LS.zJh p r hd];omega
theorem zOJ {ps:List Nat}(h:LS.Pt z s ps):ps.length<=s:=zMF h.gr
theorem zOP {er:Env}{ty:TypeId}{m0:Nat}{x y:Operand}{b:Option Addr}{T U:List Hd}{K:Value->Eng.Heap->Prop}(hx:ev er x= .slice a len cap)(hy:ev er y= .slice b m c)(O:iV m0 h 185 1 a len cap (zDT T))(h0h:m0<=h.size)(I:Row h b (zDT U))(hm:m=U.length)(hb:len+m<=1000)(H:∀a' cap' h',iV m0 h' 185 1 a' (len+m) cap' (zDT (T++U))->App h h' a a'->K (.slice a' (len+m) cap') h'):aI aS (.call ⟨.builtin .append,#[x,y],#[244,244]⟩) ty er h K:=
 WZ GA GA zIP zKU zGf (by rfl) hx hy O h0h I (by rw[zDC];omega) (fun u n=>by
  obtain⟨x,_,rfl⟩:=bz.1 n;rfl) (by omega) (by rw[zJw];omega) fun a' cap' h' j g=>H a' cap' h' (by
   have e:zDT T++zDT U=zDT (T++U):=by simp[zDT]
   rw[<-e];exact j) g
structure Fnd (z:Nat->Prop)(h:Eng.Heap)(fb:Nat)(fs:List (Nat×Value×Nat))(fc:Nat):Prop where
 map:jU kvG h fb fs fc
 val:∀s v,fZ s fs=some v->∃a n c ps,v= .slice a n c/\n=ps.length/\iV 0 h 184 1 a n c (ints (nz ps))/\LS.Pt z s ps/\LS.Most z s n
theorem Fnd.ext {fb:Nat}{fs:List (Nat×Value×Nat)}{fc:Nat}(F:Fnd z h fb fs fc)(x:Ext h h'):Fnd z h' fb fs fc:=
 ⟨F.map.ext x,fun s v q=>by
  obtain⟨a,n,c,r,b,e,g,j,o⟩:=F.val s v q;exact⟨a,n,c,r,b,e,g.ext x,j,o⟩⟩
theorem Fnd.appG {fb:Nat}{fs:List (Nat×Value×Nat)}{fc m0:Nat}{x x':Option Addr}{ws:List Value}(F:Fnd z h fb fs fc)(A:App h h' x x')(P:iV m0 h 185 1 x len cap ws)(hm:fb<m0):Fnd z h' fb fs fc:=
 ⟨F.map.keep (A.old fb (bA F.map.obj) fun p q=>by have:=(P.lt q).2;omega),fun s v r=>by
  obtain⟨a,n,c,t,b,e,g,j,o⟩:=F.val s v r;exact⟨a,n,c,t,b,e,zF1 g A P (by decide),j,o⟩⟩
def Trd (z:Nat->Prop)(all:Nat)(h:Eng.Heap)(u:Hd):Prop:=u=(none,0,0)\/∃ps:List Nat,u.2.1=ps.length/\iV 0 h 184 1 u.1 u.2.1 u.2.2 (ints (nz ps))/\LS.Pt z all ps
theorem Trd.chg {all:Nat}{u:Hd}{b:Nat}{ents:Array MapEntry}(T:Trd z all h u)(hb:h[b]? =some (.map ents c))(x:Chg h h' b):Trd z all h' u:=by
 rcases T with e|⟨n,e,g,j⟩
 .exact .inl e
 .exact .inr ⟨n,e,zG8 g hb x,j⟩
theorem Trd.ext {all:Nat}{u:Hd}(T:Trd z all h u)(x:Ext h h'):Trd z all h' u:=by
 rcases T with b|⟨j,b,e,g⟩
 .exact .inl b
 .exact .inr ⟨j,b,e.ext x,g⟩
def zQt (z:Nat->Prop)(all fb:Nat)(h:Eng.Heap)(v:Value)(h':Eng.Heap):Prop:=(∃a n c ps,v= .slice a n c/\n=ps.length/\iV 0 h' 184 1 a n c (ints (nz ps))/\LS.Pt z all ps/\LS.Most z all n)/\Chg h h' fb/\∃fs fc,Fnd z h' fb fs fc
theorem zKd (l:Nat->Int)(A O eb fb ce:Nat)(es:List (Nat×Value×Nat))(hO:O<256)(hne:eb≠fb)(hE:∀s,s≠0->s&&&O=s->((fZ s es).isSome=true<->LS.zero l A s)):
 ∀(all:Nat) (fs:List (Nat×Value×Nat)) (fc:Nat) (h:Eng.Heap),all&&&O=all->LS.zero l A all->jU kvG h eb es ce->Fnd (LS.zero l A) h fb fs fc->
 ak aS 110 #[.agg #[.int .i64 all],.map (some eb),.map (some fb)] h (zQt (LS.zero l A) all fb h):=fun all=>by
 induction all using AA with
 |ind all ih=>
  intro fs fc h hall hz ME F;have hlt:all<256:=by
   have:all&&&O<=O:=ui;omega
  (refine Rm Tryz.func110 rfl zOZ ?_;simp only[Tryz.ntmps110,Tryz.results110,coreS,U1,splice,aC,af,seval,zCO])
  refine YU ?_;have x0:Ext h (h.push (.cells #[.int .i64 all] 184)):=(Ext.refl h).push _;have q0:=jD (h:=h) (o:= .cells #[.int .i64 (all:Nat)] 184);generalize h.push (.cells #[.int .i64 (all:Nat)] 184)=g at x0 q0 ⊢;by_cases h0:(all:Int)=0
  .have Z:all=0:=by omega
   simp only[h0,q0,decide_true,coreS,aC,af,seval,Uo,YA,XA,Xg,YV,Zi,zCO];subst Z;exact⟨⟨none,0,0,[],rfl,rfl,iV.nil _ _ _ _,rfl,LS.zKx _⟩,Chg.Sg x0 _,fs,fc,F.ext x0⟩
  have Z:all≠0:=by omega
  have F1:=F.ext x0;have M1:=ME.ext x0;simp only[h0,q0,decide_false,coreS,aC,af,seval,Uo,YA,XA,Xg,YV,Zi,zCO];refine zAU yE zGf zFe F1.map (a:=all) (by rfl) (by rfl) ?_;cases hfa:fZ all fs with
  |some v=>
   obtain⟨a,n,c,Q,rfl,hn,hr,hp,hm⟩:=F1.val all v hfa;simp only[Option.getD_some,Option.isSome_some,if_true,coreS,aC,af,seval,Uo,YA,XA,Xg,YV,Zi,zCO];exact⟨⟨a,n,c,Q,rfl,hn,hr,hp,hm⟩,Chg.Sg x0 _,fs,fc,F1⟩
  |none=>
  obtain⟨i,hi8,hlow,hbit⟩:=zN3 Z hlt;have R:nP .and .i64 (all:Int) (0-(all:Int))=((2^i:Nat):Int):=by rw[Int.zero_sub];exact hlow
  simp only[Option.getD_none,Option.isSome_none,if_true,q0,hlow,coreS,aC,af,seval,Uo,YA,XA,Xg,YV,Zi,zCO];refine⟨by rw[zBS];omega,?_⟩;have hnn:¬(h.size=g.size):=by have:=bA q0;omega
  simp only[hnn,if_false,splice,gL,eD,coreS,aC,af,seval,Uo,YA,XA,Xg,YV,Zi,zCO];have q1:=Jy (o:= .cells #[.slice none 0 0] 185) q0;have xw:Ext g (g.push (.cells #[.slice none 0 0] 185)):=(Ext.refl g).push _;have OT:iV g.size (g.push (.cells #[.slice none 0 0] 185)) 185 1 (some ⟨g.size,0,none⟩) 1 1 (zDT [(none,0,0)]):=⟨rfl,.inr ⟨g.size,_,rfl,bi _,jD,by simp,by simp,by simp[zDT,hdV]⟩⟩;have ifb:fb<h.size:=bA F.map.obj;have s0:=x0.size;refine zAi [10,11,12,13,34,35,36,37,38,39,40,41,42,43,44,45,46,47,48,49,50,51,52,53,54,55,56,57,58,59,60,61,62,63,64,65,66,67,68,69,70,71] (fun e h'=>Chg g h' fb/\h'[h.size]? =some (.cells #[.int .i64 (all:Nat)] 184)/\jU kvG h' eb es ce/\(∃fs fc,Fnd (LS.zero l A) h' fb fs fc)/\∃b best:Nat,e 11= .int .i64 b/\LS.Loop (LS.zero l A) all i b best/\∃aT cT T,e 10= .slice aT T.length cT/\iV g.size h' 185 1 aT T.length cT (zDT T)/\0<T.length/\T.length+b<=all+1/\(∀u,u∈T->Trd (LS.zero l A) all h' u/\u.2.1<=best)/\∃u,u∈T/\u.2.1=best) (fun e _=>match e 11 with| .int _ q=>q.toNat|_=>0) ?_ ?_
  .refine⟨Chg.Sg xw _,q1,M1.ext xw,⟨fs,fc,F1.ext xw⟩,all,0,rfl,LS.Loop.start _ _ _,some ⟨g.size,0,none⟩,1,[(none,0,0)],rfl,OT,by simp,by simp;omega,fun u M=> ?_,(none,0,0),by simp,rfl⟩;rw[bv]at M;rw[M];exact⟨.inl rfl,bi _⟩
  rintro e t ⟨c1,W,I,⟨fs2,fc2,X⟩,b,best,he,L,aT,cT,T,J,w,hT0,hTl,hT,hTb⟩;by_cases hp0:0<b
  .have hp1:(0:Int)<(b:Int):=by omega
   have D:b&&&all=b:=L.in_;have hple:b<=all:=by rw[<-D];exact ui
   have hpO:b&&&O=b:=by
    have e1:b&&&O=(b&&&all)&&&O:=by rw[D]
    rw[e1,FX,hall,D]
   have hEp:=hE b (by omega) hpO;have epn:(b:Int)-1=((b-1:Nat):Int):=by omega
   have enx:nP .and .i64 ((b-1:Nat):Int) (all:Int)=(((b-1)&&&all:Nat):Int):=zFz _ _ (by omega) (by omega);have hnl:=LS.zNc (p:=b) (l:=all) hp0;have e2i:2^i<=128:=by
    have:2^i<=2^7:=sW (by decide) (by omega);simpa using this
   have Y:nP .and .i64 (b:Int) ((2^i:Nat):Int)=((b&&&2^i:Nat):Int):=zFz _ _ (by omega) (by omega);have V:(((b-1)&&&all:Nat):Int).toNat<(b:Int).toNat:=by omega
   have skp:(LS.zero l A b->b.testBit i=true->False)->LS.Loop (LS.zero l A) all i ((b-1)&&&all) best:=fun g=>L.skip hp0 g
   simp only[he,J,hp1,decide_true,coreS,aC,af,seval,Uo,YA,XA,Xg,YV,Zi,zCO];refine zAU Tryz.underlying182 zFm zFe I (a:=b) (by rfl) (by rfl) ?_;cases hsome:(fZ b es).isSome with
   |false=>
    have hnz:¬LS.zero l A b:=fun g=>by rw[hEp.2 g]at hsome;cases hsome
    simp only[he,W,if_true,bJ,zMD,epn,enx,coreS,aC,af,seval,Uo,YA,XA,Xg,YV,Zi,zCO];refine⟨by rw[zBS];omega,Zr (by kernel_rfl) ⟨c1,W,I,⟨fs2,fc2,X⟩,(b-1)&&&all,best,rfl,skp fun h _=>hnz h,aT,cT,T,rfl,w,hT0,by omega,hT,hTb⟩ V⟩
   |true=>
   have hzp:LS.zero l A b:=hEp.1 hsome;by_cases hb:b.testBit i=true
   case neg=>
    have e0:b&&&2^i=0:=by rw[zJt,if_neg hb]
    rw[e0]at Y;have efb2:nP .and .i64 (b:Int) ((2^i:Nat):Int)=0:=Y;simp only[he,W,R,efb2,if_true,bP,decide_true,epn,enx,coreS,aC,af,seval,Uo,YA,XA,Xg,YV,Zi,zCO];refine⟨by rw[zBS];omega,Zr (by kernel_rfl) ⟨c1,W,I,⟨fs2,fc2,X⟩,(b-1)&&&all,best,rfl,skp fun _ h=>hb h,aT,cT,T,rfl,w,hT0,by omega,hT,hTb⟩ V⟩
   have e0:b&&&2^i=2^i:=by rw[zJt,if_pos hb]
   rw[e0]at Y;have ne0:¬((2^i:Nat):Int)=0:=by
    have:0<2^i:=Nat.pow_pos (by decide);omega
   have enot:=zKi all b (by omega) D;have hn1:¬(h.size=t.size):=by have:=bA W;omega
   have hfb1:fb<t.size:=bA X.map.obj;have heb1:eb<t.size:=bA I.obj;simp only[he,J,W,R,Y,ne0,enot,hn1,if_true,if_false,splice,gL,eD,aZ,bL,bP,decide_false,coreS,aC,af,seval,Uo,YA,XA,Xg,YV,Zi,zCO];have xa:Ext t (t.push (.cells #[.int .i64 (b:Nat)] 184)):=(Ext.refl t).push _;have qa:=jD (h:=t) (o:= .cells #[.int .i64 (b:Nat)] 184);obtain⟨pr1,pr2⟩:=LS.zFJ D;have hrO:(all-b)&&&O=all-b:=by
    have e1:(all-b)&&&all=all-b:=by
     have:(b|||(all-b))&&&(all-b)=all-b:=by
      apply dG;intro j;rw[eO,bM];cases(all-b).testBit j<;>simp
     rw[<-pr1]at this;rw[Nat.and_comm];exact this
    have e2:(all-b)&&&O=((all-b)&&&all)&&&O:=by rw[e1]
    rw[e2,FX,hall,e1]
   refine ak.mono (ih (all-b) (by omega) fs2 fc2 _ hrO (LS.zHy D hz hzp) (I.ext xa) (X.ext xa)) ?_;rintro v h2 ⟨⟨a3,N,c3,Q,rfl,hn3,hr3,hpt3,hm3⟩,c2,fs3,fc3,F3⟩;have hle3:=zOJ hpt3;have y2:Chg t h2 fb:=(Chg.Sg xa fb).trans c2;have qa2:=c2.get qa (by omega);simp only[he,J,splice,gL,eD,aZ,bL,if_true,coreS,aC,af,seval,Uo,YA,XA,Xg,YV,Zi,zCO];have hh1:=c1.size;have hs2:=y2.size;have OT3:iV g.size h2 185 1 aT T.length cT (zDT T):=w.keep fun p hp=>y2.old _ (w.lt hp).1 (by have:=(w.lt hp).2;omega)
   have xc:Ext h2 (h2.push (.cells #[.slice (some ⟨t.size,0,none⟩) 1 1,.slice a3 N c3] 185)):=(Ext.refl h2).push _;refine ak.mono (zKb (some ⟨h2.size,0,none⟩) 2 (some ⟨t.size,0,none⟩) 1 1 [b] a3 N c3 Q _ (Row.block (c:=zDT [(some ⟨t.size,0,none⟩,1,1),(a3,N,c3)]) jD) ((zDD qa2).row.ext xc) rfl (hr3.row.ext xc) hn3 (by omega) (by omega)) ?_;rintro v h4 ⟨⟨a4,c4,rfl,O4⟩,x4⟩;have x24:=xc.trans x4;simp only[he,J,splice,gL,eD,aZ,bL,if_true,coreS,aC,af,seval,Uo,YA,XA,Xg,YV,Zi,zCO];have xd:Ext h4 (h4.push (.cells #[.slice a4 (1+N) c4] 185)):=(Ext.refl h4).push _;have E:=x24.trans xd;have B:=OT3.ext E;have sd:=E.size;refine zOP (m0:=g.size) (len:=T.length) (T:=T) (U:=[(a4,1+N,c4)]) rfl rfl B (by omega) (Row.block (c:=zDT [(a4,1+N,c4)]) jD) rfl (by omega) fun a5 c5 h5 O5 A5=> ?_
   have c5':Chg g h5 fb:=by
    have c0:=(c1.trans y2).ext E;exact⟨mK c0.size A5.size,fun c hc hne=>(A5.old c (rX hc c0.size) fun p hp=>by have:=(B.lt hp).2;omega).trans (c0.old c hc hne)⟩
   have q5:h5[h.size]? =some (.cells #[.int .i64 (all:Nat)] 184):=A5.updV B (E.get (y2.get W (by omega))) (bA q0);have M5:jU kvG h5 eb es ce:=((I.keep (y2.old eb heb1 hne)).ext E).keep (A5.old eb (by omega) fun p hp=>by have:=(B.lt hp).2;have:=bA ME.obj;omega);have F5:=(F3.ext E).appG A5 B (by omega);have O45:=zF1 (O4.ext xd) A5 B (by decide);have hPt:LS.Pt (LS.zero l A) all ([b]++Q):=⟨all-b,pr1,pr2,hzp,by omega,hpt3⟩;have hLn:=L.take hp0 hzp hm3 (LS.zKv hm3 (LS.zHy D hz hzp));simp only[he,q5,epn,enx,coreS,aC,af,seval,Uo,YA,XA,Xg,YV,Zi,zCO];refine⟨by rw[zBS];omega,Zr (by kernel_rfl) ⟨c5',q5,M5,⟨fs3,fc3,F5⟩,(b-1)&&&all,max best (1+N),rfl,hLn,a5,c5,T++[(a4,1+N,c4)],by simp,by simpa using O5,by simp,by simp;omega,fun u M=> ?_,?_⟩ V⟩
   .rcases cz.1 M with M|M
    .obtain⟨t1,t2⟩:=hT u M;refine⟨?_,by omega⟩;rcases t1 with t1|⟨qs,t1,t3,t4⟩
     .exact .inl t1
     .exact .inr ⟨qs,t1,zF1 ((zG8 t3 X.map.obj y2).ext E) A5 B (by decide),t4⟩
    .rw[bv]at M;rw[M];exact⟨.inr ⟨[b]++Q,by simp;omega,O45,hPt⟩,by show 1+N<=_;omega⟩
   .by_cases hbb:best<=1+N
    .exact⟨(a4,1+N,c4),by simp,by show 1+N=_;omega⟩
    .obtain⟨u,M,e⟩:=hTb;exact⟨u,List.mem_append_left _ M,by omega⟩
  have hp1:¬(0:Int)<(b:Int):=by omega
  obtain rfl:b=0:=by omega
  simp only[he,J,hp1,W,decide_false,coreS,aC,af,seval,Uo,YA,XA,Xg,YV,Zi,zCO];refine zB9 (by kernel_rfl) zBp [(0,0),(1,0),(2,0),(3,0),(4,1)] (by kernel_rfl) rfl (by kernel_rfl) ?_;simp only[W,J,coreS,aC,af,seval,Uo,YA,XA,Xg,YV,Zi,drawS,zCO];have hTle:T.length<=all+1:=by omega
  refine zIa _ (zMz aT T.length cT T t w.row rfl hT0 w.cap (by omega)) ?_;obtain⟨r,htb⟩:∃r,r=zNA T:=⟨_,rfl⟩;have htm:r∈T:=by rw[htb];exact zLg hT0
  have htn:r.2.1=best:=by
   obtain⟨u,M,e⟩:=hTb;have t:=zNB M;have h2:=(hT r htm).2;rw[<-htb]at t;omega
  have C:=L.fin hbit;have hb0:=LS.zJA C hz Z;obtain⟨Q,p1,p2,p3⟩:∃Q:List Nat,r.2.1=Q.length/\iV 0 t 184 1 r.1 r.2.1 r.2.2 (ints (nz Q))/\LS.Pt (LS.zero l A) all Q:=by
   rcases(hT r htm).1 with e|g
   .rw[e]at htn;exact absurd htn.symm hb0
   .exact g
  rw[<-htb];simp only[hdV,W,Ye,coreS,aC,af,seval,Uo,YA,XA,Xg,YV,Zi,drawS,zCO];refine zAR yE zFe X.map (a:=all) (v:= .slice r.1 r.2.1 r.2.2) (by rfl) (by rfl) (by rfl) fun h3 M3 u3=> ?_
  have hfl:fb<h.size:=ifb;have q3:h3[h.size]? =some (.cells #[.int .i64 (all:Nat)] 184):=u3.get W (by omega);simp only[q3,Ye,coreS,aC,af,seval,Uo,YA,XA,Xg,YV,Zi,drawS,zCO];refine zAU yE zGf zFe M3 (a:=all) (by rfl) (by rfl) ?_;rw[UD,if_pos rfl];simp only[Option.getD_some,Bool.false_eq_true,if_false,coreS,aC,af,seval,Uo,YA,XA,Xg,YV,Zi,zCO];have cu:Chg t h3 fb:=(Chg.refl t fb).upd u3;have P3:=zG8 p2 X.map.obj cu;refine⟨⟨r.1,r.2.1,r.2.2,Q,rfl,p1,P3,p3,by rw[htn];exact C⟩,(Chg.Sg x0 fb).trans (c1.trans cu),_,_,⟨M3,fun s v hv=> ?_⟩⟩;rw[UD]at hv;split at hv
  .rename_i e;subst e;cases hv;exact⟨r.1,r.2.1,r.2.2,Q,rfl,p1,P3,p3,by rw[htn];exact C⟩
  .obtain⟨a,n,c,qs,k1,k2,k3,k4,k5⟩:=X.val s v hv;exact⟨a,n,c,qs,k1,k2,zG8 k3 X.map.obj cu,k4,k5⟩
end
end Go.Proofs.YtejmkibjpaoahaaGreatDoor
namespace Go.Proofs.YtejmkibjpaoahaaGreatDoor
open Go Go.Proofs Go.Eng Go.Run Tab
set_option maxHeartbeats 4000000
def zDL:=(aD @Tryz.underlying3 (aD @Tryz.underlying71 @Tryz.underlying242))
def zD4:=(aD (aD @zD2 @by3) (aD @zDX (aD @sz3 @Tryz.underlying29)))
def zD5:=(aD @Tryz.underlying242 @Tryz.underlying306)
def zDM:=(aD (aD @zEm @zI9) (aD @zE3 (aD @zGF @Tryz.underlying71)))
def zD6:=(aD (aD @Tryz.underlying3 @Tryz.underlying5) (aD @Tryz.underlying9 @Tryz.underlying308))
def zCW:=(aD (aD @zEm @zI9) (aD @zE3 (aD @zGF @Tryz.underlying71)))
theorem zOq (a b:Option Addr)(n c m d:Nat)(x y:Int)(h:Eng.Heap)(hx:jL h (lg a 0)=some (.int .i64 x))(hy:jL h (lg b 0)=some (.int .i64 y))(hn:0<n)(hm:0<m)(ha:a.isSome=true)(hb:b.isSome=true)(hxb:0<=x/\x<=100)(hyb:0<=y/\y<=100):
 ak aS 112 #[.slice a n c,.slice b m d] h (fun v h'=>v= .int .i64 (x-y)/\h'=h):=by
 (refine Rm Tryz.func112 rfl zO0 ?_;simp only[Tryz.ntmps112,Tryz.results112,coreS,U1,splice,aC,af,seval,zD4])
 refine zB9 (by kernel_rfl) zBp [(0,0),(1,0),(2,0),(3,0),(4,0),(5,0),(6,0),(7,0)] (by kernel_rfl) rfl (by kernel_rfl) ?_;have e:((0:Int)).toNat=0:=rfl;simp only[e,hx,hy,Ye,coreS,aC,af,Nat.reduceAdd,Nat.reduceSub,Nat.reduceMul,Nat.reduceLeDiff,Int.reduceEq,Nat.reduceEqDiff,drawS,zD4];exact⟨⟨by omega,by omega⟩,ha,⟨by omega,by omega⟩,hb,by rw[zBS];omega⟩
theorem zPF (n:Nat)(hn:n<256)(h:Eng.Heap):ak aS 235 #[.int .u64 n] h (fun v h'=>(∃r:Int,v= .int .i64 r)/\h'=h):=by
 have g:¬(4294967296:Int)<=(n:Int):=by omega
 have j:¬(65536:Int)<=(n:Int):=by omega
 have o:¬(256:Int)<=(n:Int):=by omega
 have e:∀b:UInt8,InK .i64 ((b.toNat:Nat):Int)/\InK .i64 (0+((b.toNat:Nat):Int)):=fun b=>by
  have:=b.toNat_lt;rw[zBS,zBS];omega
 (refine Rm Tryz.func235 rfl zOg ?_;simp only[Tryz.ntmps235,Tryz.results235,coreS,U1,splice,aC,af,seval,zD6])
 simp only[g,j,o,decide_false,coreS,aC,af,seval,zD6];refine⟨by simp[InK,IntKind.min,IntKind.max,IntKind.signed,IntKind.bits];omega,⟨by omega,?_⟩,(e _).1,(e _).2,_,rfl⟩;show(n:Int)<((256:Nat):Int);omega
theorem zMR (n:Nat)(hn:n<256)(h:Eng.Heap):ak aS 164 #[.int .u64 n] h (fun v h'=>(∃r:Int,v= .int .i64 r)/\h'=h):=by
 (refine Rm Tryz.func164 rfl zO9 ?_;simp only[Tryz.ntmps164,Tryz.results164,coreS,U1,splice,aC,af,seval,zD5])
 refine ak.mono (zPF n hn h) ?_;rintro v b ⟨⟨r,rfl⟩,rfl⟩;simp only[coreS,aC,af,seval,zD5];exact⟨r,rfl⟩
theorem zPB (g c n:Nat)(Kf:Hd->Int)(T0:List Hd)(tl:List Value)(h:Eng.Heap)(hb:h[g]? =some (.cells (zDT T0++tl).toArray 29 (0,0)))(hn:n=T0.length)(hn1:n<=100)
 (hK:∀u,u∈T0->0<u.2.1/\u.1.isSome=true/\(0<=Kf u/\Kf u<=100)/\∀h',Upd h h' g->jL h' (lg u.1 0)=some (.int .i64 (Kf u))):
 ak aS 238 #[.slice (some ⟨g,0,none⟩) n c,.int .i64 0,.int .i64 n,.func (.func 112) #[] #[]] h (fun v h'=>Upd h h' g/\∃T:List Hd,T.Perm T0/\T.Pairwise (fun u w=>Kf u<=Kf w)/\h'[g]? =some (.cells (zDT T++tl).toArray 29 (0,0))):=by
 have O:∀{h':Eng.Heap} {T:List Hd} (j:Nat) (hj:j<T.length),h'[g]? =some (.cells (zDT T++tl).toArray 29 (0,0))->jL h' (lg (some ⟨g,0,none⟩) j)=some (.slice T[j].1 T[j].2.1 T[j].2.2):=fun{h' T} j hj hh=>by
  have R:Row h' (some ⟨g,0,none⟩) (zDT T++tl):=Row.block hh;have:=R.cell (j:=j) (by rw[List.length_append,zDC];omega);rw[this];rw[vC (by rw[zDC];exact hj)];simp[zDT,hdV]
 (refine Rm Tryz.func238 rfl zLf ?_;simp only[Tryz.ntmps238,Tryz.results238,coreS,U1,splice,aC,af,seval,zCW])
 refine⟨by rw[zBS];omega,?_⟩;have b0:=Upd.refl h g;have X:∀{u:Hd} {T:List Hd},T.Perm T0->u∈T->0<u.2.1/\u.1.isSome=true/\(0<=Kf u/\Kf u<=100)/\∀h',Upd h h' g->jL h' (lg u.1 0)=some (.int .i64 (Kf u)):=fun P J=>hK _ (P.subset J)
 refine zAi [8,9,12,13,14,15,16,17,18,19,20,21,22,23,24,25,26,27,28,29,30,31,32,33,34,35,36,37,38,39,40,41,42,43,44,45,46,47,48,49,50,51,52] (fun e h'=>Upd h h' g/\∃i:Nat,1<=i/\(i<=n\/i=1)/\e 8= .int .i64 i/\∃T:List Hd,T.Perm T0/\(T.take i).Pairwise (fun u w=>Kf u<=Kf w)/\h'[g]? =some (.cells (zDT T++tl).toArray 29 (0,0))) (fun e _=>match e 8 with| .int _ q=>n-q.toNat|_=>0) ⟨b0,1,by omega,.inr rfl,rfl,T0,List.Perm.refl _,?_,hb⟩ ?_
 .cases T0 with
  |nil=>exact List.Pairwise.nil
  |cons x l=>simp
 rintro e h1 ⟨u1,i,hi1,hin,he,T,hP,hS,W⟩;have hTl:T.length=n:=by rw[hn];exact hP.length_eq
 by_cases hil:i<n
 case neg=>
  simp only[he,show¬((i:Int)<(n:Int)) by omega,decide_false,coreS,aC,af,seval,zCW];refine⟨u1,T,hP,?_,W⟩;rw[bI (by omega)]at hS;exact hS
 have hlt:(i:Int)<(n:Int):=by omega
 have L:n-((i:Int)+1).toNat<n-(i:Int).toNat:=by omega
 simp only[he,hlt,decide_true,coreS,aC,af,seval,zCW];obtain⟨x,hx⟩:∃x,x=T[i]:=⟨_,rfl⟩;have V:T=T.take i++x::T.drop (i+1):=by
  rw[hx]
  conv=>lhs;rw[<-List.take_append_drop i T]
  rw[List.drop_eq_getElem_cons (by omega)]
 refine zAi [9,18,19,20,21,22,23,24,25,26,27,28,29,30,31,32,33,34,35,36,37,38,39,40,41,42,43,44,45,46,47,48,49,50,51,52] (fun e h'=>Upd h h' g/\∃A B:List Hd,e 9= .int .i64 A.length/\A.length+B.length=i/\(A++x::B++T.drop (i+1)).Perm T0/\(A++B).Pairwise (fun u w=>Kf u<=Kf w)/\(∀w∈B,Kf x<=Kf w)/\h'[g]? =some (.cells (zDT (A++x::B++T.drop (i+1))++tl).toArray 29 (0,0))) (fun e _=>match e 9 with| .int _ q=>q.toNat|_=>0) ⟨u1,T.take i,[],by rw[lC,zW (by omega)];rfl,by rw[lC,zW (by omega)];simp,by simpa[<-V]using hP,by simpa using hS,by simp,by simpa[<-V]using W⟩ ?_;rintro e2 h2 ⟨u2,A,B,r,hAB,C,E,U,o⟩;have Z:x∈A++x::B++T.drop (i+1):=by simp
 have I:(A++x::B++T.drop (i+1)).length=n:=by rw[hn];exact C.length_eq
 have N:(A++B).Pairwise (fun u w=>Kf u<=Kf w)->(∀u∈A,Kf u<=Kf x)->((A++x::B++T.drop (i+1)).take (i+1)).Pairwise (fun u w=>Kf u<=Kf w):=fun hp ha=>by
  have e1:(A++x::B++T.drop (i+1)).take (i+1)=A++x::B:=by
   rw[List.take_append_of_le_length (by simp;omega),bI (by simp;omega)]
  rw[e1,nY];rw[nY]at hp;refine⟨hp.1,List.pairwise_cons.2 ⟨U,hp.2.1⟩,fun u J w M=> ?_⟩;rcases cK.1 M with rfl|M
  .exact ha u J
  .exact hp.2.2 u J w M
 by_cases Q:A.length=0
 .have hA:A=[]:=ny Q;have hz:((A.length:Nat):Int)=0:=by omega
  simp only[r,hz,show¬((0:Int)<0) by decide,decide_false,coreS,aC,af,seval,zCW];refine zB9 (by kernel_rfl) zBp [(0,0),(1,0),(2,0),(3,0),(4,0),(5,0),(6,0),(7,0),(8,0),(9,0),(10,0),(11,0),(12,0),(13,0),(14,0),(15,0),(16,0)] (by kernel_rfl) rfl (by kernel_rfl) ?_;simp only[r,hz,show¬((0:Int)<0) by decide,decide_false,Ye,coreS,aC,af,seval,drawS,zCW];exact⟨by rw[zBS];omega,Zr (by kernel_rfl) ⟨u2,i+1,by omega,.inl (by omega),rfl,_,C,N E (by rw[hA];simp),o⟩ L⟩
 obtain⟨b,y,rfl⟩:∃b y,A=b++[y]:=by
  have Y:A≠[]:=fun e=>Q (by rw[e];rfl)
  exact⟨A.dropLast,A.getLast Y,(List.dropLast_concat_getLast Y).symm⟩
 obtain⟨D,hD⟩:∃D,D=T.drop (i+1):=⟨_,rfl⟩;rw[<-hD]at C o Z I N;have hL:b++[y]++x::B++D=b++y::x::(B++D):=by simp
 have hjl:(b++[y]).length=b.length+1:=by simp
 rw[hjl]at r hAB;have hym:y∈b++[y]++x::B++D:=by simp
 have cx:=O (b.length+1) (by rw[I];omega) o;have cy:=O b.length (by rw[I];omega) o;have gx:(b++[y]++x::B++D)[b.length+1]'(by rw[I];omega)=x:=by
  simp only[hL];rw[qz (by omega)];simp
 have gy:(b++[y]++x::B++D)[b.length]'(by rw[I];omega)=y:=by
  simp only[hL];rw[qz (by omega)];simp
 rw[gx]at cx;rw[gy]at cy;rw[gK,Hz,kY]at cx cy;obtain⟨kx1,kx2,kx3,kx4⟩:=X C Z;obtain⟨ky1,ky2,ky3,ky4⟩:=X C hym;have hz:(0:Int)<((b.length+1:Nat):Int):=by omega
 have ej:((b.length+1:Nat):Int)-1=((b.length:Nat):Int):=by omega
 simp only[r,hz,decide_true,coreS,aC,af,seval,zCW];refine zB9 (by kernel_rfl) zBp [(0,0),(1,0),(2,0),(3,0),(4,0),(5,0),(6,0),(7,0),(8,0),(9,0),(10,0),(11,0),(12,0),(13,0),(14,0),(15,0),(16,0)] (by kernel_rfl) rfl (by kernel_rfl) ?_;simp only[r,hz,ej,cx,cy,decide_true,aW,Ye,coreS,aC,af,seval,drawS,zCW];refine⟨⟨by omega,by omega⟩,rfl,by rw[zBS];omega,⟨by omega,by omega⟩,rfl,?_⟩;refine zIa _ (zOq x.1 y.1 _ _ _ _ (Kf x) (Kf y) h2 (kx4 h2 u2) (ky4 h2 u2) kx1 ky1 kx2 ky2 kx3 ky3) ?_;by_cases hxy:Kf x-Kf y<0
 case neg=>
  simp only[hxy,decide_false,Ye,coreS,aC,af,seval,drawS,zCW];refine⟨by rw[zBS];omega,Zr (by kernel_rfl) ⟨u2,i+1,by omega,.inl (by omega),rfl,_,C,N E (fun u J=> ?_),o⟩ L⟩;rw[nY,nY]at E;rcases cz.1 J with J|J
  .have:=E.1.2.2 u J y (by simp);omega
  .rw[bv]at J;rw[J];omega
 simp only[hxy,decide_true,Ye,coreS,aC,af,seval,drawS,zCW];refine zB9 (by kernel_rfl) zBp [(0,0),(1,0),(2,3),(3,3),(4,3),(5,0),(6,0),(7,0),(8,0),(9,0),(10,0),(11,0),(12,0),(13,0),(14,0),(15,1),(16,0),(17,1)] (by kernel_rfl) rfl (by kernel_rfl) ?_;simp only[r,ej,cx,cy,aW,Ye,coreS,aC,af,seval,drawS,zCW];refine⟨by rw[zBS];omega,by rw[zBS];omega,⟨by omega,by omega⟩,rfl,⟨by omega,by omega⟩,rfl,⟨by omega,by omega⟩,rfl,?_⟩;have t:(zDT b).length=b.length:=zDC b;have hV:zDT (b++[y]++x::B++D)++tl=zDT b++hdV y::hdV x::(zDT (B++D)++tl):=by simp[zDT]
 rw[hV]at o;simp only[o,coreS,aC,af,seval,drawS,zCW];refine Oy o (by simp[t];omega) fun h3 g3 u3=> ?_
 rw[MN _ _ _ (by simp[t]),zS _ _ (by rw[t];omega)]at g3;have ed1:b.length+1-(zDT b).length=1:=by rw[t];omega
 rw[ed1]at g3;simp only[r,ej,g3,aW,Ye,coreS,aC,af,seval,drawS,zCW];refine⟨⟨by omega,by omega⟩,rfl,?_⟩;refine Oy g3 (by simp[t]) fun h4 g4 u4=> ?_
 rw[MN _ _ _ (by simp[t]),zS _ _ (by rw[t];omega)]at g4;have ed0:b.length-(zDT b).length=0:=by rw[t];omega
 rw[ed0]at g4;have hW:zDT b++(List.set (hdV y:: .slice y.1 y.2.1 y.2.2::(zDT (B++D)++tl)) 0 (.slice x.1 x.2.1 x.2.2))=zDT (b++x::(y::B)++D)++tl:=by
  simp[zDT,hdV]
 rw[hW]at g4;simp only[r,ej,Ye,coreS,aC,af,seval,drawS,zCW];refine⟨by rw[zBS];omega,Zr (by kernel_rfl) ⟨(u2.trans u3).trans u4,b,y::B,rfl,by simp;omega,?_,?_,?_,by rw[<-hD];exact g4⟩ ?_⟩
 .rw[<-hD];refine List.Perm.trans ?_ C;rw[hL];simp only[List.append_assoc,dC];exact List.Perm.append_left _ (List.Perm.swap _ _ _)
 .simpa using E
 .intro w M;rcases cK.1 M with rfl|M
  .omega
  .exact U w M
 .show((b.length:Nat):Int).toNat<((b.length+1:Nat):Int).toNat;omega
theorem zPT (g c n r:Nat)(rr:Int)(Kf:Hd->Int)(T0:List Hd)(tl:List Value)(h:Eng.Heap)(hb:h[g]? =some (.cells (zDT T0++tl).toArray 29 (0,0)))(hn:n=T0.length)(hn1:n<=12)
 (hK:∀u,u∈T0->0<u.2.1/\u.1.isSome=true/\(0<=Kf u/\Kf u<=100)/\∀h',Upd h h' g->jL h' (lg u.1 0)=some (.int .i64 (Kf u))):
 ak aS 169 #[.slice (some ⟨g,0,none⟩) n c,.int .i64 0,.int .i64 n,.int .i64 rr,.func (.func 112) #[] #[]] h (fun v h'=>Upd h h' g/\∃T:List Hd,T.Perm T0/\T.Pairwise (fun u w=>Kf u<=Kf w)/\h'[g]? =some (.cells (zDT T++tl).toArray 29 (0,0))):=by
 have t:(n:Int)-0<=12:=by omega
 (refine Rm Tryz.func169 rfl zLe ?_;simp only[Tryz.ntmps169,Tryz.results169,coreS,U1,splice,aC,af,seval,zDM])
 refine zAi [1,2,3,10,11,12,13,14,15,16,17,18,19,20,21,22,23,24,25,26,27,28,29,30,31,32,33,34,35,36,37,38,39,40,41,42,43,44,45,46,47,48,49,50,51,52,53,54,55,56,57,58,59,60,61,62,63,64,65,66,67,68,69,70,71,72,73,74,75,76,77,78,79,80,81,82,83,84,85,86,87,88,89,90,91,92,93,94,95,96,97,98,99,100,101,102,103,104,105,106,107,108,109,110,111,112,113,114,115,116,117,118,119,120,121,122,123,124,125,126,127,128,129,130,131,132,133,134,135,136,137,138,139,140,141,142,143,144,145,146,147] (fun e h'=>h'=h/\e 1= .int .i64 0/\e 2= .int .i64 n/\e 3= .int .i64 rr) (fun _ _=>0) ⟨rfl,rfl,rfl,rfl⟩ ?_;rintro e h' ⟨rfl,b,j,o⟩;simp only[b,j,o,t,decide_true,coreS,aC,af,seval,zDM];refine⟨by rw[zBS];omega,?_⟩;refine ak.mono (zPB g c n Kf T0 tl h' hb hn (by omega) hK) ?_;rintro v B q;simp only[coreS,aC,af,seval,zDM];exact q
theorem zJL (g c n:Nat)(Kf:Hd->Int)(T0:List Hd)(tl:List Value)(h:Eng.Heap)(hb:h[g]? =some (.cells (zDT T0++tl).toArray 29 (0,0)))(hn:n=T0.length)(hn1:n<=12)
 (hK:∀u,u∈T0->0<u.2.1/\u.1.isSome=true/\(0<=Kf u/\Kf u<=100)/\∀h',Upd h h' g->jL h' (lg u.1 0)=some (.int .i64 (Kf u))):
 ak aS 111 #[.slice (some ⟨g,0,none⟩) n c,.func (.func 112) #[] #[]] h (fun v h'=>Upd h h' g/\∃T:List Hd,T.Perm T0/\T.Pairwise (fun u w=>Kf u<=Kf w)/\h'[g]? =some (.cells (zDT T++tl).toArray 29 (0,0))):=by
 (refine Rm Tryz.func111 rfl zLb ?_;simp only[Tryz.ntmps111,Tryz.results111,coreS,U1,splice,aC,af,seval,zDL])
 refine⟨by rw[zBY];omega,?_⟩;refine ak.mono (zMR n (by omega) h) ?_;rintro v b ⟨⟨r,rfl⟩,rfl⟩;simp only[coreS,aC,af,seval,zDL];refine ak.mono (zPT g c n 0 r Kf T0 tl b hb hn hn1 hK) ?_;rintro v j e;simp only[coreS,aC,af,seval,zDL];exact e
end Go.Proofs.YtejmkibjpaoahaaGreatDoor
namespace Go.Eng
open Go Go.Run
attribute [local semireducible] aI
section maps4
variable {α:Type}[DecidableEq α]{P:Program}{h:Heap}{er:Env}{ty:TypeId}
theorem key_inj {β γ:Type}{f:β->γ}:∀{l:List β},(l.map f).Nodup->∀{x y},x∈l->y∈l->f x=f y->x=y
 |[],_,x,_,b,_,_=>by cases b
 |z::l,hn,x,y,b,e,he=>by
  rw[iq,mJ]at hn;rcases cK.1 b with g|b<;>rcases cK.1 e with j|e
  .rw[g,j]
  .exact absurd (bz.2 ⟨y,e,by rw[<-he,g]⟩) hn.1
  .exact absurd (bz.2 ⟨x,b,by rw[he,j]⟩) hn.1
  .exact key_inj hn.2 b e he
theorem Zh {u kt vt:TypeId}{kv:α->Value}{z:Value}(hu:P.underlying u=some (.map kt vt))(hz:dJ P vt=some z)(K:Keys P kt kv){b c:Nat}{es:List (α×Value×Nat)}(M:jU kv h b es c){a:α}
 {x k:Operand} {Q:Value->Heap->Prop} (hx:ev er x= .map (some b)) (hk:ev er k=kv a)
 (H:∀h' (w:Nat),jU kv h' b (fF a ((fZ a es).getD z) c es) (jJ a es c)->(a,(fZ a es).getD z,w)∈fF a ((fZ a es).getD z) c es->Upd h h' b->Q (.tuple #[(fZ a es).getD z,.int .i64 w]) h'):aI P (.mapEntry u x k) ty er h Q:=by
 have B:=qy (o':= .map ((fF a ((fZ a es).getD z) c es).map (dE kv)).toArray (jJ a es c)) M.obj;cases hf:ku a es 0 with
 |none=>
  obtain⟨V,X,_⟩:=jY hf;have D:=H _ c (M.put B.1) (by rw[X];simp) B.2;refine az rfl (.tuple #[(fZ a es).getD z,.int .i64 c]) _ D fun W q=>⟨{W with heap:=W.heap.setIfInBounds b (.map ((fF a ((fZ a es).getD z) c es).map (dE kv)).toArray (jJ a es c))},?_,by rw[q],rfl,rfl,rfl⟩
  have g:=M.obj;rw[<-q]at g;have E:=K.check a false W;have o:=K.find a es W;have N:=wV (P:=P) g;have n:=xe (P:=P) (.map ((fF a ((fZ a es).getD z) c es).map (dE kv)).toArray (jJ a es c)) g;have R:(zeroValue vt).run P W= .ok z W:=by
   unfold dJ at hz;cases hi:P.info? vt with
   |none=>simp[hi]at hz
   |some i=>simp only[hi,Option.bind_some]at hz;simp[zeroValue,typeInfo,hi,hz]
  have I:(fZ a es).getD z=z:=by rw[V];rfl
  rw[I]at n ⊢;have J:((es.map (dE kv)).toArray.push {key:=kv a,val:=z,born:=c})=((fF a z c es).map (dE kv)).toArray:=by simp[X,dE]
  have L:jJ a es c=c+1:=by simp[jJ,V]
  rw[hf]at o;rw[L]at n ⊢;simp only[execOp,Instr.mapEntry,hx,hk,Sem.run_bind,run_underlying hu,Result.andThen_ok,N,E,dn,o,R,J,n,Sem.run_pure,goInt]
 |some r=>
  obtain⟨j,Y⟩:=r;obtain⟨k0,C,T,v,h3,h4,O,U,_⟩:=jT hf;have T:j=k0:=by omega
  subst T;have t:(a,(fZ a es).getD z,C.2.2)∈fF a ((fZ a es).getD z) c es:=by
   rw[U,O];refine List.mem_iff_getElem?.2 ⟨j,?_⟩;rw[xQ,v];simp
  have D:=H _ C.2.2 (M.put B.1) t B.2;refine az rfl (.tuple #[(fZ a es).getD z,.int .i64 C.2.2]) _ D fun W q=>⟨{W with heap:=W.heap.setIfInBounds b (.map ((fF a ((fZ a es).getD z) c es).map (dE kv)).toArray (jJ a es c))},?_,by rw[q],rfl,rfl,rfl⟩
  have g:=M.obj;rw[<-q]at g;have E:=K.check a false W;have o:=K.find a es W;have N:=wV (P:=P) g;have n:=xe (P:=P) (.map ((fF a ((fZ a es).getD z) c es).map (dE kv)).toArray (jJ a es c)) g;have I:(fZ a es).getD z=Y:=by rw[O];rfl
  rw[I]at n ⊢;have J:((es.map (dE kv)).toArray.modify j fun e=>{e with key:=kv a})=((fF a Y c es).map (dE kv)).toArray:=by
   apply Iz.1;rw[gN,U];apply lY;intro i;simp only[dn,xQ,kV,Option.map_map];split
   .rename_i he;subst he;rw[v];simp[dE,h4]
   .cases es[i]? <;>simp[dE]
  have L:jJ a es c=c:=by simp[jJ,O]
  have Z:((es.map (dE kv)).toArray[j]?.map (·.key)).getD (kv a)=kv a:=by simp[v,dE,h3]
  have e4:((es.map (dE kv)).toArray[j]?.map (fun x=>(x.born:Int))).getD 0=(C.2.2:Int):=by simp[v,dE]
  have st:=K.stays a W;rw[hf]at o;rw[L]at n ⊢;simp only[execOp,Instr.mapEntry,hx,hk,Sem.run_bind,run_underlying hu,Result.andThen_ok,N,E,dn,o,Z,st,J,n,Sem.run_pure,goInt,e4]
theorem zBM {u:TypeId}{kv:α->Value}{b c:Nat}{es:List (α×Value×Nat)}(M:jU kv h b es c){a:α}{v0 v:Value}{w:Nat}(hm:(a,v0,w)∈es)(hn:(es.map (·.1)).Nodup)
 {x k y:Operand} {Q:Value->Heap->Prop} (hx:ev er x= .map (some b)) (hk:ev er k= .int .i64 w) (hy:ev er y=v)
 (H:∀h',jU kv h' b (fF a v c es) c->Upd h h' b->Q undef h'):aI P (.entryStore u x k y) ty er h Q:=by
 cases hf:ku a es 0 with
 |none=>
  obtain⟨T,_,_⟩:=jY hf;rw[HV hn hm rfl]at T;cases T
 |some r=>
  obtain⟨j,u0⟩:=r;obtain⟨k0,x0,L,n,Y,h4,Z,h6,_⟩:=jT hf;have L:j=k0:=by omega
  subst L;have E:x0=(a,v0,w):=key_inj hn (List.mem_of_getElem? n) hm Y;subst E;have I:jJ a es c=c:=by simp[jJ,Z]
  have D:=qy (o':= .map ((fF a v c es).map (dE kv)).toArray (jJ a es c)) M.obj;obtain⟨C,q⟩:∃C,C=h.setIfInBounds b (.map ((fF a v c es).map (dE kv)).toArray (jJ a es c)):=⟨_,rfl⟩;rw[<-q]at D;have N:=M.put D.1;rw[I]at N;have U:=H C N D.2;refine oM rfl _ U fun W O=>⟨{W with heap:=W.heap.setIfInBounds b (.map ((fF a v c es).map (dE kv)).toArray (jJ a es c))},?_,by rw[O,q],rfl,rfl,rfl⟩
  have t:=M.obj;rw[<-O]at t;have X:=wV (P:=P) t;have J:=xe (P:=P) (.map ((fF a v c es).map (dE kv)).toArray (jJ a es c)) t;have V:((es.map (dE kv)).toArray.modify j fun e=>{e with val:=v})=((fF a v c es).map (dE kv)).toArray:=by
   apply Iz.1;rw[gN,h6];apply lY;intro i;simp only[dn,xQ,kV,Option.map_map];split
   .rename_i he;subst he;rw[n];simp[dE]
   .cases es[i]? <;>simp[dE]
  have g:j<es.length:=(kM.1 n).1;have B:(es.map (dE kv)).toArray.findIdx? (fun e=>(e.born:Int)==(w:Int))=some j:=by
   have:∀(a:Array MapEntry) (f:MapEntry->Bool),a.findIdx? f=a.toList.findIdx? f:=fun a f=>by cases a;simp
   rw[this,dn,List.findIdx?_eq_some_iff_getElem];refine⟨by simpa using g,?_,fun i hi=> ?_⟩
   .have:es[j]=(a,v0,w):=by
     have:=aF g;rw[this]at n;exact Option.some.inj n
    simp[dE,this]
   .have R:=M.born;rw[rz]at R;have o:=(List.pairwise_iff_getElem.1 R) i j (by omega) g hi;have:es[j]=(a,v0,w):=by
     have:=aF g;rw[this]at n;exact Option.some.inj n
    rw[this]at o;have o:es[i].2.2<w:=o;simp only[List.getElem_map,dE];simp;omega
  rw[I]at J ⊢;simp[execOp,Instr.entryStore,hx,hk,hy,asInt,asIntOf,X,B,V,J]
end maps4
end Go.Eng
