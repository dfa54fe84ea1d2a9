/- Lemmas. No condition. -/
import Derived.Test.YtejmkibjpaoahaaGreatDoorV4
open Go.Value renaming oneCell'→af,cells→aC,int→tq
open And renaming intro→aD
open List renaming getElem?_eq_getElem→aF,getD_eq_getElem?_getD→aN,mem_range→aX,length_cons→aZ,range→bn,mem_singleton→bv,mem_map→bz,mem_cons_of_mem→bD,mem_cons_self→bE,take_of_length_le→bI,append_nil→bK,length_nil→bL,length_append→bQ,mem_filter→bR,nil_append→bS,mem_append→cz,mem_cons→cK,getElem_mem→cZ,cons_append→dC,findIdx?_eq_some_iff_getElem→dL,length_map→ek,all_eq_true→eB,take→eD,getElem?_append_left→eP,replicate→eQ,contains_eq_mem→fe,drop→gL,take_add_one→gY,map_cons→iq,not_mem_nil→kC,findIdx?_eq_none_iff→kL,size_toArray→kX,getD→lc,any_eq_true→lw,length_take→lC,getElem?_append_right→lN,map_append→mI,nodup_range→pq,drop_eq_getElem_cons→qp,mem_of_mem_take→qO,pairwise_map→rz,range_succ→rA,map_congr_left→rM,take_append_of_le_length→rO,getElem?_toArray→sK,take_succ_cons→xU,append_assoc→zk,flatten_cons→zl,filter_cons_of_neg→zn,filter_cons_of_pos→zq,getElem?_replicate→zt,getElem_map→zB,length_drop→zD,take_zero→CF,flatMap_append→CW,length_pos_iff→Dn,mem_flatMap→II,mem_flatten→IJ,take_length→IK
open Go.Proofs.Tryz renaming prog→aS,underlying182→mM,underlying51→Ic,underlying71→Il
open Int renaming toNat_natCast→aW
open Bool renaming and_eq_true→aY,not_false→bJ,not_true→bP,or_eq_true→ed,not_eq_true'→fw,false_eq_true→kz,true_and→EE
open Nat renaming le_refl→bi,testBit_or→bM,eq_of_testBit_eq→dG,testBit_and→eO,zero_testBit→kS,zero_add→kY,le_trans→mK,pow_le_pow_right→sW,exists_testBit_of_ne_zero→xK,lt_of_not_le→xM,zero_le→zw,add_assoc→FN
open Go.Region renaming ready→dS,noSelect_spec→kD,binds→xJ,noSelect→xW,wanted→zx
open Array renaming getElem?_eq_some_iff→eF,getElem?_modify→pV,any_eq_true'→vE,setIfInBounds_comm→yR,getElem?_eq_none→zL
open Classical renaming byContradiction→iL,not_not→sM
open List.Pairwise renaming filter→ko,nil→lX
set_option linter.unusedSimpArgs false
set_option linter.unusedVariables false
set_option linter.defProp false
set_option maxRecDepth 100000
namespace Go.Eng
open Go
attribute [local semireducible] aI iP gP lm WP
section drawB
variable {l:Option Nat}{P:Program}{ops:Array Oper}
structure Pre (R:Heap->Heap->Prop):Prop where
 refl:∀h,R h h
 trans:∀a b c,R a b->R b c->R a c
theorem Pre.of {R:Heap->Heap->Prop}(hS:Pre R){a b:Heap}(h:EqH a b):R a b:=by rw[show b=a from h];exact hS.1 _
def qD (P:Program)(ops:Array Oper)(R:Heap->Heap->Prop)(G:Nat->Bool)(Q:Act->World->Prop):Nat->Array Bool->Act->World->Prop
 |0,listed,a,w=>∀w1,Rest w w1->EqH w.heap w1.heap->dS .any ops listed=[]/\Q a w1
 |n+1,listed,a,w=>∀w1,Rest w w1->EqH w.heap w1.heap->(dS .any ops listed=[]->Q a w1)/\
  ∀i∈dS .any ops listed,opD P ops i (fun a' w'=>(G i=true->R w1.heap w'.heap)/\Rest w1 w'/\qD P ops R G Q n (listed.setIfInBounds i true) a' w') a w1
variable {R:Heap->Heap->Prop}{G:Nat->Bool}{Q:Act->World->Prop}
section
variable {v:Value}{w:World}
theorem eqT {a b c:Heap}(x:EqH a b)(y:EqH b c):EqH a c:=Eq.trans y x
theorem oH {n:Nat}{listed:Array Bool}{a:Act}{w':World}(hr:Rest w w')(hR:EqH w.heap w'.heap)(H:qD P ops R G Q n listed a w):qD P ops R G Q n listed a w':=by
 cases n with
 |zero=>exact fun j f g=>H j (hr.trans f) (eqT hR g)
 |succ n=>exact fun j f g=>H j (hr.trans f) (eqT hR g)
theorem sU {Q':Exit->Act->World->Prop}(hQ:∀a w,Q a w->Q' .normal a w):∀(n:Nat) (listed:Array Bool) (a:Act) (w:World),qD P ops R G Q n listed a w->wpAnyIn (fen l) 0 P .any ops Q' n listed a w
 |0,listed,a,w,H=>⟨(H w (Rest.refl w) rfl).1,hQ _ _ (H w (Rest.refl w) rfl).2⟩
 |n+1,listed,a,w,H=>by
  have H:=H w (Rest.refl w) rfl;exact⟨fun g=>hQ _ _ (H.1 g),fun i j=>wpOpIn_mono (fun f p h'=>sU hQ n _ f p h'.2.2) (mh (H.2 i j))⟩
def YdB (P:Program)(ops:Array Oper)(R:Heap->Heap->Prop)(o:Oper)(v:Value)(a:Act)(w:World):Prop:=
 (zx o (yielded ops a.tmps)=true/\∀w',Rest w w'->R w.heap w'.heap->Es P o a w' (fun v' w''=>v'=v/\EqH w'.heap w''.heap))\/
 (zx o (yielded ops a.tmps)=false/\v=undef)
theorem QK (hS:Pre R){o:Oper}{a:Act}{w':World}(hr:Rest w w')(hR:R w.heap w'.heap)(H:YdB P ops R o v a w):YdB P ops R o v a w':=by
 rcases H with⟨j,n⟩|h
 .exact .inl ⟨j,fun p g f=>n p (hr.trans g) (hS.2 _ _ _ hR f)⟩
 .exact .inr h
theorem Xt {o:Oper}{a a':Act}(H:YdB P ops R o v a w)(he:execOp a'.eval o=execOp a.eval o)(hw:zx o (yielded ops a'.tmps)=zx o (yielded ops a.tmps)):YdB P ops R o v a' w:=by
 unfold YdB Es at *;rw[he,hw];exact H
theorem Bg (hS:Pre R){i:Nat}{oi:Oper}(hi:ops[i]? =some oi)(hsel:∀(j:Nat) (o:Oper) cs b,ops[j]? =some o->o.op≠.select cs b)(Bk:List Nat)(hBk:∀j∈Bk,j≠i/\∀oj,ops[j]? =some oj->∃e∈oj.after,xJ .any e=true/\(e.on=i\/e.on∈Bk)):
 ∀(fuel:Nat) (listed:Array Bool) (a:Act) (w:World),
  (∀j oj,ops[j]? =some oj->j≠i->listed.getD j true=false->j∉Bk->oi.apart ops oj=true/\G j=true)->(∀j∈Bk,listed.getD j true=false)->
  i∈dS .any ops listed->YdB P ops R oi v a w->
  qD P ops R G Q fuel (listed.setIfInBounds i true) (a.put oi.dst v) w->qD P ops R G Q (fuel+1) listed a w:=by
 intro fuel;have N:∀(fuel:Nat) (listed:Array Bool) (a:Act) (w n:World),Rest w n->EqH w.heap n.heap->YdB P ops R oi v a w->
  qD P ops R G Q fuel (listed.setIfInBounds i true) (a.put oi.dst v) w->opD P ops i (fun a' q=>(G i=true->R n.heap q.heap)/\Rest n q/\qD P ops R G Q fuel (listed.setIfInBounds i true) a' q) a n:=by
  intro fuel listed a w n g f M H;unfold opD;simp only[hi];rcases M with⟨U,M⟩|⟨U,hv⟩
  .simp only[U,if_true];obtain⟨hd,hs⟩:=M n g (hS.of f);refine⟨hd,eH ?_ hs⟩;rintro v' w'' C ⟨rfl,hR⟩;exact⟨fun _=>hS.of hR,C,oH (g.trans C) (eqT f hR) H⟩
  .simp only[U];subst hv;exact⟨fun _=>hS.1 _,Rest.refl _,oH g f H⟩
 induction fuel with
 |zero=>
  intro listed a w _ T C M H n g f;refine⟨fun h=>(by rw[h]at C;cases C),fun j hj=> ?_⟩;by_cases p:j=i
  .subst p;exact N 0 listed a w n g f M H
  .have:=ready_mono hj p;rw[(H n g f).1]at this;cases this
 |succ fuel ih=>
  intro listed a w A T C M H n g f;refine⟨fun h=>(by rw[h]at C;cases C),fun j hj=> ?_⟩;by_cases p:j=i
  .subst p;exact N (fuel+1) listed a w n g f M H
  .have r:=(H n g f).2 j (ready_mono hj p);obtain⟨J,oj,I,hall⟩:=mem_ready.1 hj;have K:j∉Bk:=fun hjB=>by
    obtain⟨e,he,hb,B⟩:=(hBk j hjB).2 oj I;have r:=hall e he hb;have h0:listed.getD e.on true=false:=by
     rcases B with B|B
     .rw[B];exact(mem_ready.1 C).1
     .exact T _ B
    rcases Nat.lt_or_ge e.on listed.size with h'|h'
    .simp[h']at h0 r;rw[h0]at r;cases r
    .simp[zL h']at r
   obtain⟨hap,hGj⟩:=A j oj I p J K;obtain⟨X,hp2,Y⟩:=Oper.apart_spec hap;have hsj:∀cs b,oj.op≠.select cs b:=fun cs b=>hsel j oj cs b I
   have hsi:∀cs b,oi.op≠.select cs b:=fun cs b=>hsel i oi cs b hi
   have D:∀k ok,ops[k]? =some ok->k≠i->(listed.setIfInBounds j true).getD k true=false->
    k∉Bk->oi.apart ops ok=true/\G k=true:=fun k ok hk hki hun hno=>by
    refine A k ok hk hki ?_ hno;by_cases E:j=k
    .subst E;exact J
    .rw[getD_set_ne true E]at hun;exact hun
   have W:∀k∈Bk,(listed.setIfInBounds j true).getD k true=false:=fun k hk=>by
    have E:j≠k:=fun h=>K (h▸hk)
    rw[getD_set_ne true E];exact T k hk
   have O:∀(u:Value) (q:World),Rest n q->((G j=true->R n.heap q.heap)/\Rest n q/\qD P ops R G Q fuel ((listed.setIfInBounds i true).setIfInBounds j true) ((a.put oi.dst v).put oj.dst u) q)->
    (G j=true->R n.heap q.heap)/\Rest n q/\qD P ops R G Q (fuel+1) (listed.setIfInBounds j true) (a.put oj.dst u) q:=by
    rintro u q Z ⟨hg,hr2,V⟩;refine⟨hg,hr2,ih (listed.setIfInBounds j true) (a.put oj.dst u) q D W (ready_mono C (Ne.symm p)) ?_ ?_⟩
    .exact Xt (QK hS (g.trans hr2) (hS.2 _ _ _ (hS.of f) (hg hGj)) M) (execOp_put oi hsi a oj.dst u Y) (wanted_put oi a oj.dst u Y)
    .rw[yR _ _ p,<-Act.put_comm a v u hp2];exact V
   unfold opD at r ⊢;simp only[I]at r ⊢;rw[wanted_put oj a oi.dst v X]at r;split
   .rename_i U;simp only[U,if_true]at r;refine⟨r.1,?_⟩;have h2:=r.2;rw[execOp_put oj hsj a oi.dst v X]at h2;exact eH (fun u q Z h3=>O u q Z h3) h2
   .rename_i U;simp only[U]at r;exact O undef n (Rest.refl _) r
theorem yY (hS:Pre R){i:Nat}{oi:Oper}(hi:ops[i]? =some oi)(hsel:∀(j:Nat) (o:Oper) cs b,ops[j]? =some o->o.op≠.select cs b)(Bk:List Nat)(hBk:∀j∈Bk,j≠i/\∀oj,ops[j]? =some oj->∃e∈oj.after,xJ .any e=true/\(e.on=i\/e.on∈Bk)):
 ∀(fuel:Nat) (listed:Array Bool) (a:Act) (w:World),
  (∀j oj,ops[j]? =some oj->j≠i->listed.getD j true=false->j∉Bk->oi.apart ops oj=true)->(∀j∈Bk,listed.getD j true=false)->
  i∈dS .any ops listed->YdP P ops oi v a w->
  qD P ops R G Q fuel (listed.setIfInBounds i true) (a.put oi.dst v) w->qD P ops R G Q (fuel+1) listed a w:=by
 intro fuel;have N:∀(fuel:Nat) (listed:Array Bool) (a:Act) (w g:World),Rest w g->EqH w.heap g.heap->YdP P ops oi v a w->
  qD P ops R G Q fuel (listed.setIfInBounds i true) (a.put oi.dst v) w->opD P ops i (fun a' q=>(G i=true->R g.heap q.heap)/\Rest g q/\qD P ops R G Q fuel (listed.setIfInBounds i true) a' q) a g:=by
  intro fuel listed a w g f n M H;unfold opD;simp only[hi];rcases M with⟨U,M⟩|⟨U,hv⟩
  .simp only[U,if_true];obtain⟨hd,hs⟩:=M g f;refine⟨hd,eH ?_ hs⟩;rintro v' w'' C ⟨rfl,hE⟩;have hR:EqH g.heap w''.heap:=hE;exact⟨fun _=>hS.of hR,C,oH (f.trans C) (eqT n hR) H⟩
  .simp only[U];subst hv;exact⟨fun _=>hS.1 _,Rest.refl _,oH f n H⟩
 induction fuel with
 |zero=>
  intro listed a w _ T C M H g f n;refine⟨fun h=>(by rw[h]at C;cases C),fun j hj=> ?_⟩;by_cases p:j=i
  .subst p;exact N 0 listed a w g f n M H
  .have:=ready_mono hj p;rw[(H g f n).1]at this;cases this
 |succ fuel ih=>
  intro listed a w A T C M H g f n;refine⟨fun h=>(by rw[h]at C;cases C),fun j hj=> ?_⟩;by_cases p:j=i
  .subst p;exact N (fuel+1) listed a w g f n M H
  .have r:=(H g f n).2 j (ready_mono hj p);obtain⟨J,oj,I,hall⟩:=mem_ready.1 hj;have K:j∉Bk:=fun hjB=>by
    obtain⟨e,he,hb,B⟩:=(hBk j hjB).2 oj I;have r:=hall e he hb;have h0:listed.getD e.on true=false:=by
     rcases B with B|B
     .rw[B];exact(mem_ready.1 C).1
     .exact T _ B
    rcases Nat.lt_or_ge e.on listed.size with h'|h'
    .simp[h']at h0 r;rw[h0]at r;cases r
    .simp[zL h']at r
   have hap:=A j oj I p J K;obtain⟨X,hp2,Y⟩:=Oper.apart_spec hap;have hsj:∀cs b,oj.op≠.select cs b:=fun cs b=>hsel j oj cs b I
   have hsi:∀cs b,oi.op≠.select cs b:=fun cs b=>hsel i oi cs b hi
   have D:∀k ok,ops[k]? =some ok->k≠i->(listed.setIfInBounds j true).getD k true=false->
    k∉Bk->oi.apart ops ok=true:=fun k ok hk hki hun hno=>by
    refine A k ok hk hki ?_ hno;by_cases E:j=k
    .subst E;exact J
    .rw[getD_set_ne true E]at hun;exact hun
   have W:∀k∈Bk,(listed.setIfInBounds j true).getD k true=false:=fun k hk=>by
    have E:j≠k:=fun h=>K (h▸hk)
    rw[getD_set_ne true E];exact T k hk
   have O:∀(u:Value) (q:World),Rest g q->((G j=true->R g.heap q.heap)/\Rest g q/\qD P ops R G Q fuel ((listed.setIfInBounds i true).setIfInBounds j true) ((a.put oi.dst v).put oj.dst u) q)->
    (G j=true->R g.heap q.heap)/\Rest g q/\qD P ops R G Q (fuel+1) (listed.setIfInBounds j true) (a.put oj.dst u) q:=by
    rintro u q Z ⟨hg,hr2,V⟩;refine⟨hg,hr2,ih (listed.setIfInBounds j true) (a.put oj.dst u) q D W (ready_mono C (Ne.symm p)) ?_ ?_⟩
    .exact TQ (DV (f.trans hr2) M) (execOp_put oi hsi a oj.dst u Y) (wanted_put oi a oj.dst u Y)
    .rw[yR _ _ p,<-Act.put_comm a v u hp2];exact V
   unfold opD at r ⊢;simp only[I]at r ⊢;rw[wanted_put oj a oi.dst v X]at r;split
   .rename_i U;simp only[U,if_true]at r;refine⟨r.1,?_⟩;have h2:=r.2;rw[execOp_put oj hsj a oi.dst v X]at h2;exact eH (fun u q Z h3=>O u q Z h3) h2
   .rename_i U;simp only[U]at r;exact O undef g (Rest.refl _) r
end
end drawB
def RB (m:Nat)(h h':Heap):Prop:=h.size<=h'.size/\∀b,b<m->h'[b]? =h[b]?
theorem xZ (m:Nat):Pre (RB m):=⟨fun h=>⟨bi _,fun _ _=>rfl⟩,fun a b c x y=>⟨mK x.1 y.1,fun i f=>(y.2 i f).trans (x.2 i f)⟩⟩
theorem RB.Sg {m:Nat}{h h':Heap}(x:Ext h h')(hm:m<=h.size):RB m h h':=⟨x.size,fun b f=>x.old b (by omega)⟩
theorem RB.zCD {m b:Nat}{h h':Heap}(u:Upd h h' b)(hm:m<=b):RB m h h':=⟨by rw[u.size];exact bi _,fun i f=>u.old i (by omega)⟩
theorem RB.refl (m:Nat)(h:Heap):RB m h h:=(xZ m).1 h
theorem RB.trans {m:Nat}{a b c:Heap}(x:RB m a b)(y:RB m b c):RB m a c:=(xZ m).2 _ _ _ x y
theorem RB.get {m b:Nat}{h h':Heap}{o:Obj}(x:RB m h h')(hb:b<m)(hg:h[b]? =some o):h'[b]? =some o:=(x.2 b hb).trans hg
theorem RB.ext {h h':Heap}(x:RB h.size h h'):Ext h h':=⟨x.1,fun b f=>x.2 b f⟩
def WM (m:Nat)(v:Value):Prop:=match v with| .pointer (some a)=>a.block<m|_=>False
def ldB (P:Program)(m:Nat)(o:Op)(e:Env)(h:Heap)(K:Value->Heap->Prop):Prop:=match o with| .load t x=>WM m (ev e x)/\fU P t (ev e x) h K|_=>False
inductive PB where
 |fin
 |load (i:Nat) (r:PB)
 |pure (i:Nat) (r:PB)
 |keep (i:Nat) (r:PB)
 |fork (x y:Nat) (a b:PB)
 |lu (x y z:Nat) (a b c:PB)
def PB.size:PB->Nat
 | .fin=>0
 | .load _ r| .pure _ r| .keep _ r=>r.size+1
 | .fork _ _ a _=>a.size+1
 | .lu _ _ _ a _ _=>a.size+1
section XD
variable {P:Program}{l:Option Nat}{m:Nat}
def bV (P:Program)(m:Nat)(all:List Oper):PB->aj->Env->List Deferred->Heap->Prop
 | .fin,k,e,d,h=>k .normal e d h
 | .load i rest,k,e,d,h=>match all[i]? with
   |some o=>ax o.guard all e (fun e=>ldB P m o.op e h (fun v h'=>bV P m all rest k (aU e o.dst v) d h')) (fun e=>bV P m all rest k (aU e o.dst undef) d h)
   |none=>False
 | .pure i rest,k,e,d,h=>match all[i]? with
   |some o=>ax o.guard all e (fun e=>fK P o.op e h (fun v h'=>bV P m all rest k (aU e o.dst v) d h')) (fun e=>bV P m all rest k (aU e o.dst undef) d h)
   |none=>False
 | .keep i rest,k,e,d,h=>stO P all all[i]? e h (fun e h''=>RB m h h''/\bV P m all rest k e d h'')
 | .fork x y a b,k,e,d,h=>stO P all all[x]? e h (fun e h''=>RB m h h''/\bV P m all a k e d h'')/\stO P all all[y]? e h (fun e h''=>RB m h h''/\bV P m all b k e d h'')
 | .lu x y z a b c,k,e,d,h=>stO P all all[x]? e h (fun e h''=>RB m h h''/\bV P m all a k e d h'')/\stO P all all[y]? e h (fun e h''=>RB m h h''/\bV P m all b k e d h'')/\stO P all all[z]? e h (fun e h''=>RB m h h''/\bV P m all c k e d h'')
def okB (all:List Oper):PB->Array Bool->Bool
 | .fin,listed=>(dS .any all.toArray listed).isEmpty
 | .load i rest,listed=>(dS .any all.toArray listed).contains i&&vQ all listed i (blk all listed i all.length 0 [])&&
  ((bn all.length).all fun j=>j==i||listed.getD j true||(blk all listed i all.length 0 []).contains j||(match all[i]?,all[j]? with|some oi,some oj=>oi.apart all.toArray oj|_,_=>true))&&
  okB all rest (listed.setIfInBounds i true)
 | .pure i rest,listed=>(dS .any all.toArray listed).contains i&&vQ all listed i (blk all listed i all.length 0 [])&&
  ((bn all.length).all fun j=>j==i||listed.getD j true||(blk all listed i all.length 0 []).contains j||(match all[i]?,all[j]? with|some oi,some oj=>oi.apart all.toArray oj|_,_=>true))&&
  okB all rest (listed.setIfInBounds i true)
 | .keep i rest,listed=>decide (dS .any all.toArray listed=[i])&&okB all rest (listed.setIfInBounds i true)
 | .fork x y a b,listed=>decide (dS .any all.toArray listed=[x,y])&&(decide (a.size=b.size)&&(okB all a (listed.setIfInBounds x true)&&okB all b (listed.setIfInBounds y true)))
 | .lu x y z a b c,listed=>decide (dS .any all.toArray listed=[x,y,z])&&(decide (a.size=b.size)&&(decide (a.size=c.size)&&(okB all a (listed.setIfInBounds x true)&&(okB all b (listed.setIfInBounds y true)&&okB all c (listed.setIfInBounds z true)))))
theorem Ay {t:TypeId}{v:Value}{h h':Heap}{K:Value->Heap->Prop}(ho:WM m v)(hR:RB m h h')(H:fU P t v h K):∃x,K x h/\fU P t v h' (fun y _=>y=x):=by
 unfold fU at H ⊢;split at H
 case h_2=>exact H.elim
 rename_i p;have q:jL h' p=jL h p:=by
  cases p with
  |none=>rfl
  |some a=>unfold jL;simp only[hR.2 a.block ho]
 have j:∀n,gm h' p n=gm h p n:=by
  intro n;cases p with
  |none=>rfl
  |some a=>unfold gm;simp only[hR.2 a.block ho]
 cases hag:zF P t with
 |none=>simp[hag]at H
 |some b=>
  simp only[hag]at H ⊢;cases b with
  |true=>
   obtain⟨r,H⟩:=H;rw[oP]at H;obtain⟨cs,f,g⟩:=H;exact⟨_,g,r,oP.2 ⟨cs,(j _).trans f,rfl⟩⟩
  |false=>
   simp only at H ⊢;rw[je]at H;obtain⟨x,f,g⟩:=H;exact⟨_,g,je.2 ⟨x,q.trans f,rfl⟩⟩
theorem Qh {o:Op}{e:Env}{h:Heap}{K:Value->Heap->Prop}(H:ldB P m o e h K):iX o=true/\∃v,K v h/\∀(ty:TypeId) (w:World),RB m h w.heap->(execOp (ev e) {dst:=none,op:=o,type:=ty,pos:= "",after:= #[],guard:=none}).run P w= .ok (.value v) w:=by
 unfold ldB at H;split at H
 .rename_i t x;obtain⟨g,H⟩:=H;obtain⟨B,A,_⟩:=Ay g (RB.refl m h) H;refine⟨rfl,?_⟩;have j:∀h',RB m h h'->∃y,K y h/\fU P t (ev e x) h' (fun z _=>z=y):=fun h' f=>Ay g f H
  obtain⟨y,q,n⟩:=j h (RB.refl m h);refine⟨y,q,fun ty w f=> ?_⟩;have:fU P t (ev e x) h (fun z _=>z=y):=n;obtain⟨z,rfl,r⟩:=Ay g f this;obtain⟨u,rfl,p⟩:=og r;have:=p w rfl;simp only[execOp,Sem.run_bind,this,Result.andThen_ok,Sem.run_pure]
 .exact H.elim
theorem dZ {all:List Oper}{k:aj}{w0:World}(hsel:xW all.toArray=true):∀(t:PB) (listed:Array Bool) (e:Env) (d:List Deferred) (w:World),Rest w0 w->
 okB all t listed=true->bV P m all t k e d w.heap->
 qD P all.toArray (RB m) (fun _=>true) (fun a w'=>k .normal a.tmps.toList a.defers w'.heap/\Rest w0 w') t.size listed ⟨e.toArray,d⟩ w
 | .fin,listed,e,d,w,hr,f,H=>fun w1 D K=>by
   refine⟨by simpa[okB]using f,?_,hr.trans D⟩;rw[show w1.heap=w.heap from K];unfold bV at H;simpa using H
 | .load i rest,listed,e,d,w,hr,f,H=>by
   simp only[okB,aY]at f;obtain⟨⟨⟨E,M⟩,hG⟩,f⟩:=f;unfold bV at H;cases hi:all[i]? with
   |none=>simp[hi]at H
   |some o=>
    simp only[hi]at H;have Y:all.toArray[i]? =some o:=by simpa using hi
    obtain⟨I,U⟩:∃I,I=blk all listed i all.length 0 []:=⟨_,rfl⟩;rw[<-U]at M hG;have V:∀j∈I,listed.getD j true=false:=fun j O=>by
     have:=eB.1 M j O;simp only[aY,fw]at this;exact this.1.1
    have W:∀j∈I,j≠i/\∀p,all.toArray[j]? =some p->∃e∈p.after,xJ .any e=true/\(e.on=i\/e.on∈I):=fun j O=>by
     have:=eB.1 M j O;simp only[aY,bne_iff_ne,ne_eq]at this;refine⟨this.1.2,fun p hoj=> ?_⟩;have N:all[j]? =some p:=by simpa using hoj
     have h2:=this.2;rw[N]at h2;obtain⟨e,he,hb⟩:=vE.1 h2;simp only[aY,ed,beq_iff_eq,fe,decide_eq_true_eq]at hb;exact⟨e,he,hb.1,hb.2⟩
    have X:∀j p,all.toArray[j]? =some p->j≠i->listed.getD j true=false->j∉I->o.apart all.toArray p=true:=by
     intro j p O hne hun hno;have hlt:j<all.length:=by have:=(eF.1 O).1;simpa using this
     have:=eB.1 hG j (aX.2 hlt);have N:all[j]? =some p:=by simpa using O
     simp only[hi,N,ed,aY,beq_iff_eq,hne,false_or,hun,kz,fe,decide_eq_true_eq,hno]at this;exact this
    have J:i∈dS .any all.toArray listed:=by simpa using E
    rcases dB H o rfl with⟨hw,hA⟩|⟨hw,hB⟩
    .obtain⟨hd,v,r,hv⟩:=Qh hA;refine Bg (xZ m) Y (kD hsel) I W rest.size listed _ w (fun j p a b c d=>⟨X j p a b c d,rfl⟩) V J (v:=v) ?_ ?_
     .refine .inl ⟨hw,fun w' hr' hR=>⟨hd,?_⟩⟩;rw[dY,bW,hv _ w' hR];exact⟨⟨rfl,rfl⟩,Rest.refl _⟩
     .rw[ay];exact dZ hsel rest _ _ d w hr f r
    .refine Bg (xZ m) Y (kD hsel) I W rest.size listed _ w (fun j p a b c d=>⟨X j p a b c d,rfl⟩) V J (v:=undef) (.inr ⟨hw,rfl⟩) ?_;rw[ay];exact dZ hsel rest _ _ d w hr f hB
 | .pure i rest,listed,e,d,w,hr,f,H=>by
   simp only[okB,aY]at f;obtain⟨⟨⟨E,M⟩,hG⟩,f⟩:=f;unfold bV at H;cases hi:all[i]? with
   |none=>simp[hi]at H
   |some o=>
    simp only[hi]at H;have Y:all.toArray[i]? =some o:=by simpa using hi
    obtain⟨I,U⟩:∃I,I=blk all listed i all.length 0 []:=⟨_,rfl⟩;rw[<-U]at M hG;have V:∀j∈I,listed.getD j true=false:=fun j O=>by
     have:=eB.1 M j O;simp only[aY,fw]at this;exact this.1.1
    have W:∀j∈I,j≠i/\∀p,all.toArray[j]? =some p->∃e∈p.after,xJ .any e=true/\(e.on=i\/e.on∈I):=fun j O=>by
     have:=eB.1 M j O;simp only[aY,bne_iff_ne,ne_eq]at this;refine⟨this.1.2,fun p hoj=> ?_⟩;have N:all[j]? =some p:=by simpa using hoj
     have h2:=this.2;rw[N]at h2;obtain⟨e,he,hb⟩:=vE.1 h2;simp only[aY,ed,beq_iff_eq,fe,decide_eq_true_eq]at hb;exact⟨e,he,hb.1,hb.2⟩
    have X:∀j p,all.toArray[j]? =some p->j≠i->listed.getD j true=false->j∉I->o.apart all.toArray p=true:=by
     intro j p O hne hun hno;have hlt:j<all.length:=by have:=(eF.1 O).1;simpa using this
     have:=eB.1 hG j (aX.2 hlt);have N:all[j]? =some p:=by simpa using O
     simp only[hi,N,ed,aY,beq_iff_eq,hne,false_or,hun,kz,fe,decide_eq_true_eq,hno]at this;exact this
    have J:i∈dS .any all.toArray listed:=by simpa using E
    rcases dB H o rfl with⟨hw,hA⟩|⟨hw,hB⟩
    .obtain⟨hd,v,r,hv⟩:=oD (ty:=o.type) hA;refine yY (xZ m) Y (kD hsel) I W rest.size listed _ w X V J (v:=v) ?_ ?_
     .refine .inl ⟨hw,fun w' hr'=>⟨hd,?_⟩⟩;rw[dY,bW,hv w'];exact⟨⟨rfl,rfl⟩,Rest.refl _⟩
     .rw[ay];exact dZ hsel rest _ _ d w hr f r
    .refine yY (xZ m) Y (kD hsel) I W rest.size listed _ w X V J (v:=undef) (.inr ⟨hw,rfl⟩) ?_;rw[ay];exact dZ hsel rest _ _ d w hr f hB
 | .keep i rest,listed,e,d,w,hr,f,H=>by
   intro w1 D K;simp only[okB,aY,decide_eq_true_eq]at f;obtain⟨h1,f⟩:=f;unfold bV at H;rw[<-show w1.heap=w.heap from K]at H;rw[h1];refine⟨fun h=>by simp at h,fun q Z=> ?_⟩;have Z:q=i:=by simpa using Z
   subst Z;refine dU (G:=fun _=>true) (Kx:=fun e g=>bV P m all rest k e d g) (fC H fun e h r=>⟨fun _=>r.1,r.2⟩) fun e2 w2 n T=> ?_
   exact dZ hsel rest _ _ d w2 (hr.trans (D.trans n)) f T
 | .fork x y a b,listed,e,d,w,hr,f,H=>by
   intro w1 D K;simp only[okB,aY,decide_eq_true_eq]at f;obtain⟨h1,h2,o1,o2⟩:=f;unfold bV at H;rw[<-show w1.heap=w.heap from K]at H;obtain⟨A,B⟩:=H;rw[h1];refine⟨fun h=>by simp at h,fun q Z=> ?_⟩;have Z:q=x\/q=y:=by simpa using Z
   rcases Z with rfl|rfl
   .refine dU (G:=fun _=>true) (Kx:=fun e g=>bV P m all a k e d g) (fC A fun e h r=>⟨fun _=>r.1,r.2⟩) fun e2 w2 n T=> ?_
    exact dZ hsel a _ _ d w2 (hr.trans (D.trans n)) o1 T
   .refine dU (G:=fun _=>true) (Kx:=fun e g=>bV P m all b k e d g) (fC B fun e h r=>⟨fun _=>r.1,r.2⟩) fun e2 w2 n T=> ?_
    have:=dZ (w0:=w0) hsel b _ _ d w2 (hr.trans (D.trans n)) o2 T;rw[<-h2]at this;exact this
 | .lu x y z a b c,listed,e,d,w,hr,f,H=>by
   intro w1 D K;simp only[okB,aY,decide_eq_true_eq]at f;obtain⟨h1,h2,h3,o1,o2,o3⟩:=f;unfold bV at H;rw[<-show w1.heap=w.heap from K]at H;obtain⟨A,B,C⟩:=H;rw[h1];refine⟨fun h=>by simp at h,fun q Z=> ?_⟩;have Z:q=x\/q=y\/q=z:=by simpa using Z
   rcases Z with rfl|rfl|rfl
   .refine dU (G:=fun _=>true) (Kx:=fun e g=>bV P m all a k e d g) (fC A fun e h r=>⟨fun _=>r.1,r.2⟩) fun e2 w2 n T=> ?_
    exact dZ hsel a _ _ d w2 (hr.trans (D.trans n)) o1 T
   .refine dU (G:=fun _=>true) (Kx:=fun e g=>bV P m all b k e d g) (fC B fun e h r=>⟨fun _=>r.1,r.2⟩) fun e2 w2 n T=> ?_
    have:=dZ (w0:=w0) hsel b _ _ d w2 (hr.trans (D.trans n)) o2 T;rw[<-h2]at this;exact this
   .refine dU (G:=fun _=>true) (Kx:=fun e g=>bV P m all c k e d g) (fC C fun e h r=>⟨fun _=>r.1,r.2⟩) fun e2 w2 n T=> ?_
    have:=dZ (w0:=w0) hsel c _ _ d w2 (hr.trans (D.trans n)) o3 T;rw[<-h3]at this;exact this
theorem zA5 (hm:P.follows .mixedOrders=true)(m:Nat){id:Nat}{all:List Oper}{k:aj}{e:Env}{d:List Deferred}{h:Heap}(t:PB)
 (hsel:xW all.toArray=true) (hlen:t.size=all.length) (hok:okB all t (Array.replicate all.length false)=true)
 (H:bV P m all t k e d h):WP l P (.region id all.toArray true) k e d h:=by
 unfold WP;intro w p;subst p;refine wpIn_region_any hm ?_;have g:=dZ (w0:=w) hsel t _ e d {w with drawn:=w.drawn+1} ⟨rfl,rfl,rfl⟩ hok H;rw[hlen]at g;have j:=sU (l:=l) (Q':=fun x a f=>k x a.tmps.toList a.defers f.heap/\Rest w f) (fun a f n=>n) _ _ _ _ g;simpa using j
variable {all:List Oper}{rest:PB}{k:aj}{e:Env}{d:List Deferred}{h:Heap}{dst:Option Tmp}{op:Op}{ty:TypeId}{pos:String}{after:Array Edge}{i x y z:Nat}{a b c:PB}
def GJ (P:Program)(m:Nat)(all:List Oper)(rest:PB)(k:aj)(dst:Option Tmp)(e:Env)(d:List Deferred):Value->Heap->Prop:=fun v h=>bV P m all rest k (aU e dst v) d h
theorem VZ {v:Value}:GJ P m all rest k dst e d v h=bV P m all rest k (aU e dst v) d h:=eqi rfl
def RA (P:Program)(m:Nat)(o:Option Oper)(all:List Oper)(rest:PB)(k:aj)(e:Env)(d:List Deferred)(h:Heap):Prop:=
 match o with
 |some o=>ax o.guard all e (fun e=>ldB P m o.op e h (fun v h'=>GJ P m all rest k o.dst e d v h')) (fun e=>bV P m all rest k (aU e o.dst undef) d h)
 |none=>False
def Py (P:Program)(m:Nat)(o:Option Oper)(all:List Oper)(rest:PB)(k:aj)(e:Env)(d:List Deferred)(h:Heap):Prop:=
 match o with
 |some o=>ax o.guard all e (fun e=>fK P o.op e h (fun v h'=>GJ P m all rest k o.dst e d v h')) (fun e=>bV P m all rest k (aU e o.dst undef) d h)
 |none=>False
theorem Qs:bV P m all .fin k e d h=k .normal e d h:=eqi rfl
theorem MR:bV P m all (.load i rest) k e d h=RA P m all[i]? all rest k e d h:=by simp only[bV,RA,GJ]
theorem Kt:bV P m all (.pure i rest) k e d h=Py P m all[i]? all rest k e d h:=by simp only[bV,Py,GJ]
def gB (v:Value)(s:Tmp)(want:Bool)(F:Env->Prop)(all:List Oper)(P:Program)(m:Nat)(rest:PB)(k:aj)(dst:Option Tmp)(e:Env)(d:List Deferred)(h:Heap):Prop:=
 au v (fun b=>if b=want then F (e.set s (.bool b))else bV P m all rest k (aU (e.set s (.bool b)) dst undef) d h) (bV P m all rest k (aU e dst undef) d h)
def gBo (s:Option Tmp)(want:Bool)(F:Env->Prop)(all:List Oper)(P:Program)(m:Nat)(rest:PB)(k:aj)(dst:Option Tmp)(e:Env)(d:List Deferred)(h:Heap):Prop:=
 match s with|some s=>gB (e.getD s undef) s want F all P m rest k dst e d h|none=>bV P m all rest k (aU e dst undef) d h
theorem UL {t:TypeId}{x:Operand}{K:Value->Heap->Prop}:ldB P m (.load t x) e h K=(WM m (ev e x)/\fU P t (ev e x) h K):=eqi rfl
theorem Uf {b o:Nat}{s:_}:WM m (.pointer (some ⟨b,o,s⟩))=(b<m):=eqi rfl
theorem Lv:RA P m (some ⟨dst,op,ty,pos,after,none⟩) all rest k e d h=ldB P m op e h (GJ P m all rest k dst e d):=by simp only[RA,ax]
theorem NI:Py P m (some ⟨dst,op,ty,pos,after,none⟩) all rest k e d h=fK P op e h (GJ P m all rest k dst e d):=by simp only[Py,ax]
theorem LZ {j:Nat}{want:Bool}:RA P m (some ⟨dst,op,ty,pos,after,some (j,want)⟩) all rest k e d h=gBo (fQ all j) want (fun e=>ldB P m op e h (GJ P m all rest k dst e d)) all P m rest k dst e d h:=by
 simp only[RA,ax,gBo];cases fQ all j<;>rfl
theorem NN {j:Nat}{want:Bool}:Py P m (some ⟨dst,op,ty,pos,after,some (j,want)⟩) all rest k e d h=gBo (fQ all j) want (fun e=>fK P op e h (GJ P m all rest k dst e d)) all P m rest k dst e d h:=by
 simp only[Py,ax,gBo];cases fQ all j<;>rfl
theorem Tj {s:Tmp}{want:Bool}{F:Env->Prop}:gBo (some s) want F all P m rest k dst e d h=gB (e.getD s undef) s want F all P m rest k dst e d h:=eqi rfl
theorem zAX {s:Tmp}{F:Env->Prop}:gB (.bool true) s true F all P m rest k dst e d h=F (e.set s (.bool true)):=by simp[gB,au]
theorem zAd {s:Tmp}{F:Env->Prop}:gB (.bool false) s false F all P m rest k dst e d h=F (e.set s (.bool false)):=by simp[gB,au]
theorem zAP {s:Tmp}{F:Env->Prop}:gB (.bool true) s false F all P m rest k dst e d h=bV P m all rest k (aU (e.set s (.bool true)) dst undef) d h:=by simp[gB,au]
theorem zA3 {s:Tmp}{F:Env->Prop}:gB (.bool false) s true F all P m rest k dst e d h=bV P m all rest k (aU (e.set s (.bool false)) dst undef) d h:=by simp[gB,au]
theorem U0 {s:Tmp}{w:Bool}{vs:Array Value}{F:Env->Prop}:gB (.tuple vs) s w F all P m rest k dst e d h=bV P m all rest k (aU e dst undef) d h:=by simp[gB,au]
theorem ZG (H:stO P all all[i]? e h (fun e h''=>RB m h h''/\bV P m all rest k e d h'')):bV P m all (.keep i rest) k e d h:=H
theorem YG (A:stO P all all[x]? e h (fun e h''=>RB m h h''/\bV P m all a k e d h''))(B:stO P all all[y]? e h (fun e h''=>RB m h h''/\bV P m all b k e d h'')):bV P m all (.fork x y a b) k e d h:=⟨A,B⟩
def XD:=aD (aD (aD @Qs (aD @MR @Kt)) (aD (aD @Lv @NI) (aD @LZ @NN)))
 (aD (aD (aD @Tj @VZ) (aD @UL @Uf)) (aD (aD @zAX @zAd) (aD @zAP (aD @zA3 @U0))))
end XD
end Go.Eng
namespace Go.Proofs.YtejmkibjpaoahaaGreatDoor
open Go Go.Proofs Go.Eng Go.Run Tab
section
variable {L:Nat->Int}{day:Int}{es:List En}{i k:Nat}{l:List Nat}{m:Nat}{o:List Nat}{s w:Nat}{xs:List Int}
set_option maxHeartbeats 4000000
def fS (L:Nat->Int)(s i:Nat):Int:=if s.testBit i then L i else 0
def zFl (L:Nat->Int)(s:Nat)(l:List Nat):Option Value:=if l.any (fun i=>s.testBit i)then some (.int .i64 (LS.zCo (fS L s) l))else none
theorem zHg {L:Nat->Int}{s:Nat}:∀{l:List Nat},l.any (fun i=>s.testBit i)=false->LS.zCo (fS L s) l=0
 |[],_=>rfl
 |x::l,h=>by
  rw[List.any_cons,Bool.or_eq_false_iff]at h;rw[LS.zCo,zHg h.2,fS,h.1];rfl
theorem zMm:(zFl L s l).getD (.int .i64 0)= .int .i64 (LS.zCo (fS L s) l):=by
 unfold zFl;split
 .rfl
 .rename_i h;rw[zHg (by simpa using h)];rfl
theorem zMn (h:s.testBit i=true):zFl L s (l++[i])=some (.int .i64 (LS.zCo (fS L s) l+L i)):=by
 unfold zFl;rw[if_pos (by simp[h]),LS.zDr];congr 2;simp[LS.zCo,fS,h]
theorem zNr (h:s.testBit i=false):zFl L s (l++[i])=zFl L s l:=by
 unfold zFl;rw[LS.zDr,List.any_append];simp[LS.zCo,fS,h]
structure EvI (L:Nat->Int)(o:List Nat)(m j:Nat)(es:List (Nat×Value×Nat)):Prop where
 nd:(es.map (·.1)).Nodup
 get:∀s,fZ s es=if s<m then zFl L s o else if s=m then zFl L s (o.take j)else none
theorem EvI.start:EvI L o 0 0 []:=⟨by simp,fun s=>by
 rw[if_neg (by omega)];split<;>rfl⟩
theorem EvI.next {es:List (Nat×Value×Nat)}(E:EvI L o m o.length es):EvI L o (m+1) 0 es:=⟨E.nd,fun s=>by
 rw[E.get,CF,IK];by_cases f:s<m
 .rw[if_pos f,if_pos (by omega)]
 .rw[if_neg f];by_cases g:s=m
  .subst g;rw[if_pos rfl,if_pos (by omega)]
  .rw[if_neg g,if_neg (by omega)];split<;>rfl⟩
theorem EvI.skip {j:Nat}{es:List (Nat×Value×Nat)}(E:EvI L o m j es)(hj:j<o.length)(h:m.testBit (o.getD j 0)=false):EvI L o m (j+1) es:=⟨E.nd,fun s=>by
 rw[E.get];by_cases f:s=m
 .subst f;have e:o.take (j+1)=o.take j++[o.getD j 0]:=by
   rw[gY,aF hj,aN,aF hj];rfl
  rw[e,zNr h]
 .rw[if_neg f,if_neg f]⟩
theorem EvI.add {j c1 c2:Nat}{v:Value}{es:List (Nat×Value×Nat)}(E:EvI L o m j es)(hj:j<o.length)(h:m.testBit (o.getD j 0)=true):EvI L o m (j+1) (fF m (.int .i64 (LS.zCo (fS L m) (o.take j)+L (o.getD j 0))) c2 (fF m v c1 es)):=⟨Zg (Zg E.nd),fun s=>by
 rw[UD,UD,E.get];have e:o.take (j+1)=o.take j++[o.getD j 0]:=by
  rw[gY,aF hj,aN,aF hj];rfl
 by_cases f:s=m
 .subst f;rw[if_pos rfl,if_neg (by omega),if_pos rfl,e,zMn h]
 .rw[if_neg f,if_neg f,if_neg f,if_neg f]⟩
theorem zHK {F:Nat->Int}{B:Int}(hB:0<=B):∀{l:List Nat},(∀i∈l,-B<=F i/\F i<=B)-> -(B*(l.length:Int))<=LS.zCo F l/\LS.zCo F l<=B*(l.length:Int)
 |[],_=>by simp[LS.zCo]
 |x::l,h=>by
  have g:=h x bE;have j:=zHK hB (l:=l) fun i f=>h i (bD _ f)
  rw[LS.zCo,aZ];have e:B*((l.length+1:Nat):Int)=B*(l.length:Int)+B:=by
   rw[Int.natCast_add,Int.mul_add];simp
  rw[e];omega
theorem zEy {F:Nat->Int}{p:Nat->Bool}:∀{l:List Nat},(∀i∈l,p i=false->F i=0)->LS.zCo F (l.filter p)=LS.zCo F l
 |[],_=>rfl
 |x::l,h=>by
  have f:=zEy (F:=F) (p:=p) (l:=l) fun i g=>h i (bD _ g)
  cases hp:p x with
  |true=>rw[zq hp,LS.zCo,LS.zCo,f]
  |false=>rw[zn (by rw[hp];decide),f,LS.zCo,h x bE hp];omega
theorem zFt {a:Nat}:∀{es:List (Nat×Value×Nat)},(es.map (·.1)).Nodup->∀{x},x∈lW a es<->x∈es/\x.1≠a
 |[],_,x=>by simp[lW]
 |y::es,hn,x=>by
  rw[iq,List.nodup_cons]at hn;have p:=zFt (a:=a) hn.2 (x:=x);by_cases g:a=y.1
  .simp only[lW,g,if_true,cK];constructor
   .intro h;exact⟨.inr h,fun e=>hn.1 (by rw[<-e];exact bz.2 ⟨x,h,rfl⟩)⟩
   .rintro⟨rfl|h,f⟩
    .exact absurd rfl f
    .exact h
  .simp only[lW,g,if_false,cK,p];constructor
   .rintro(rfl|⟨j,n⟩)
    .exact⟨.inl rfl,fun e=>g e.symm⟩
    .exact⟨.inr j,n⟩
   .rintro⟨rfl|h,f⟩
    .exact .inl rfl
    .exact .inr ⟨h,f⟩
theorem zPY {A:Nat}{e:En}(hf:0<=e.f/\e.f<A)(ht:0<=e.t/\e.t<A):LS.sm (fun i=>amt day (i:Int) e) A=0:=by
 by_cases g:e.d<=day
 .have j:∀i,i<A->amt day (i:Int) e=(if i=e.t.toNat then e.a else 0)+(if i=e.f.toNat then-e.a else 0):=fun i _=>by
   have n:(e.t=(i:Int))=(i=e.t.toNat):=propext (by omega);have p:(e.f=(i:Int))=(i=e.f.toNat):=propext (by omega);unfold amt;rw[if_pos g];simp only[n,p];split<;>split<;>omega
  rw[LS.zDZ j,LS.zEY,LS.zEf,LS.zEf,if_pos (by omega),if_pos (by omega)];omega
 .exact LS.zFk fun i _=>by unfold amt;rw[if_neg g]
theorem zMf {A:Nat}{day:Int}:∀{es:List En},(∀e∈es,(0<=e.f/\e.f<A)/\0<=e.t/\e.t<A)->LS.sm (fun i=>zDI es day (i:Int)) A=0
 |[],_=>LS.zFk fun i _=>rfl
 |e::es,h=>by
  have p:=zMf (day:=day) (es:=es) fun x n=>h x (bD _ n)
  have j:=h e bE;rw[LS.zDZ (g:=fun i=>amt day (i:Int) e+zDI es day (i:Int)) fun i _=>zDi e es day i,LS.zEY,p,zPY j.1 j.2];rfl
theorem zEo (hok:∀e∈es,okE k e)(hi:k<=i):zDI es day (i:Int)=0:=by
 induction es with
 |nil=>rfl
 |cons e es ih=>
  have g:=hok e bE;rw[zDi,ih fun x j=>hok x (bD _ j)];unfold amt;have n:=g.2.1;have p:=g.2.2.1;rw[if_neg (show¬e.t=(i:Int) by omega),if_neg (show¬e.f=(i:Int) by omega)];split<;>rfl
theorem zNv {l:Nat->Int}(hl:l=fun i=>xs.getD i 0):LS.zero l 8 s<->LS.zCo (fS l s) (zDc xs 8)=0:=by
 have e:LS.zCo (fS l s) (zDc xs 8)=LS.zCo (fS l s) (bn 8):=zEy fun i _ g=>by
  have f:xs.getD i 0=0:=by simpa using g
  unfold fS;rw[hl];show(if s.testBit i then xs.getD i 0 else 0)=0;rw[f];split<;>rfl
 rw[e,<-LS.zFj];rfl
theorem zDo:i∈zDc xs 8<->i<8/\xs.getD i 0≠0:=by
 unfold zDc;rw[bR,aX];simp
theorem zLn {eZ:List (Nat×Value×Nat)}(hxs:xs=zCd 8 es day)(hok:∀e∈es,okE k e)(hm:m=2^k)(hbits:∀i,w.testBit i=true<->i∈zDc xs 8)(hZ:∀s,(fZ s eZ).isSome=true<->s<m/\(zDc xs 8).any (fun i=>s.testBit i)=true/\LS.zCo (fS (fun i=>xs.getD i 0) s) (zDc xs 8)=0)(s:Nat)(h0:s≠0)(hw:s&&&w=s):(fZ s eZ).isSome=true<->LS.zero (fun i=>xs.getD i 0) 8 s:=by
 have j:∀i,s.testBit i=true->i∈zDc xs 8:=fun i f=>by
  rw[<-hw,eO,aY]at f;exact(hbits i).1 f.2
 have q:∀i,s.testBit i=true->i<k:=fun i f=>by
  obtain⟨n,p⟩:=zDo.1 (j i f);refine xM fun g=>p ?_
  rw[hxs,zCm es day n];exact zEo hok g
 rw[hZ,<-zNv rfl];refine⟨fun h=>h.2.2,fun h=>⟨?_,?_,h⟩⟩
 .rw[hm];refine Nat.lt_pow_two_of_testBit s fun i f=> ?_
  cases hc:s.testBit i with
  |false=>rfl
  |true=>have:=q i hc;omega
 .obtain⟨i,f⟩:=xK h0;exact lw.2 ⟨i,j i f,f⟩
theorem zL2 (hxs:xs=zCd 8 es day)(hok:∀e∈es,okE k e)(hk:k<=8)(hbits:∀i,w.testBit i=true<->i∈zDc xs 8):LS.zero (fun i=>xs.getD i 0) 8 w:=by
 have e:∀i,i<8->(if w.testBit i then xs.getD i 0 else 0)=zDI es day (i:Int):=fun i j=>by
  split
  .rw[hxs,zCm es day j]
  .rename_i h;have f:¬(i<8/\xs.getD i 0≠0):=fun g=>h ((hbits i).2 (zDo.2 g))
   have n:xs.getD i 0=0:=by
    refine iL fun g=>f ⟨j,g⟩
   rw[hxs,zCm es day j]at n;exact n.symm
 unfold LS.zero;rw[LS.zDZ e];exact zMf fun x p=>by
  have f:=hok x p;have q:=f.2.1;have r:=f.2.2.1;omega
theorem zMw (hxs:xs=zCd 8 es day)(hbits:∀i,w.testBit i=true<->i∈zDc xs 8):w=LS.msk (LS.opn (fun i=>xs.getD i 0)) 8:=by
 apply dG;intro i;rw[LS.zCl];have n:=(hbits i).trans zDo;unfold LS.opn;cases hc:w.testBit i with
 |true=>
  obtain⟨g,f⟩:=n.1 hc;show true=(decide (i<8)&& !decide (xs.getD i 0=0));rw[decide_eq_true g,decide_eq_false f];rfl
 |false=>
  have g:¬(i<8/\xs.getD i 0≠0):=fun j=>by rw[n.2 j]at hc;cases hc
  show false=(decide (i<8)&& !decide (xs.getD i 0=0));by_cases f:i<8
  .have p:xs.getD i 0=0:=iL fun j=>g ⟨f,j⟩
   rw[decide_eq_true p];simp
  .rw[decide_eq_false f];rfl
end
end Go.Proofs.YtejmkibjpaoahaaGreatDoor
namespace Go.Proofs.YtejmkibjpaoahaaGreatDoor
open Go Go.Proofs Go.Eng Go.Run Tab
section
variable {G:List (Hd×Nat)}{a:Option Addr}{cap:Nat}{cur:Array Value}{gb:Nat}{h h':Eng.Heap}{k len m:Nat}
set_option maxHeartbeats 4000000
def zDN:=(aD @Tryz.underlying3 (aD @Tryz.underlying71 @Tryz.underlying242))
def zDO:=(aD (aD @zEm @zI9) (aD @zE3 (aD @zGF @Tryz.underlying71)))
def zD7:=(aD (aD @zEm @zI9) (aD @zE3 (aD @zGF @Tryz.underlying71)))
theorem zPc {er:Env}{ty:TypeId}{m0:Nat}{x y:Operand}{b:Option Addr}{c:Nat}{T U:List Hd}{K:Value->Eng.Heap->Prop}(hx:ev er x= .slice a len cap)(hy:ev er y= .slice b m c)(O:iV m0 h 29 1 a len cap (zDT T))(h0h:m0<=h.size)(I:Row h b (zDT U))(hm:m=U.length)(hb:len+m<=1000)(H:∀a' cap' h',iV m0 h' 29 1 a' (len+m) cap' (zDT (T++U))->App h h' a a'->K (.slice a' (len+m) cap') h'):aI aS (.call ⟨.builtin .append,#[x,y],#[71,71]⟩) ty er h K:=
 WZ Il Il zE3 zGF zJq (by rfl) hx hy O h0h I (by rw[zDC];omega) (fun u j=>by
  obtain⟨x,_,rfl⟩:=bz.1 j;rfl) (by omega) (by rw[zI9];omega) fun a' cap' h' g f=>H a' cap' h' (by
   have e:zDT T++zDT U=zDT (T++U):=by simp[zDT]
   rw[<-e];exact g) f
theorem zGO {m2:Nat}{el el2:TypeId}{s2:Nat}{x x':Option Addr}{len2 cap2:Nat}{vs:List Int}{ws:List Value}(O:eG m h el a len cap vs)(A:App h h' x x')(P:iV m2 h el2 s2 x len2 cap2 ws)(hne:el≠el2):eG m h' el a len cap vs:=
 O.keep fun p f=>A.old _ (O.lt f).1 fun q j e=>by
  rcases O.ok with⟨n,_⟩|⟨g,cur,n,H,E,_⟩
  .rw[n]at f;cases f
  rcases P.ok with⟨r,_⟩|⟨D,B,r,I,C,_⟩
  .rw[r]at j;cases j
  rw[n]at f;rw[r]at j;cases f;cases j;have e:D=g:=e;rw[e,E]at C;cases C;exact hne rfl
def acc (p k:Nat):List Nat:=(bn k).filter fun i=>p.testBit i
theorem zEM (p k:Nat):acc p (k+1)=acc p k++if p.testBit k then[k]else[]:=by
 unfold acc;rw[rA,List.filter_append];congr 1;by_cases h:p.testBit k=true
 .rw[if_pos h,zq h];rfl
 .rw[if_neg h,zn h];rfl
theorem zIA (p k:Nat):(acc p k).length<=k:=by
 unfold acc;have:=List.length_filter_le (fun i=>p.testBit i) (bn k);rw[List.length_range]at this;exact this
theorem zDg {p i:Nat}:i∈acc p k<->i<k/\p.testBit i=true:=by
 unfold acc;rw[bR,aX]
theorem zJl {z:Nat->Prop}:∀{ps:List Nat} {s p:Nat},LS.Pt z s ps->p∈ps->p&&&s=p
 |q::ps,s,p,h,g=>by
  obtain⟨r,n,C,D,E,A⟩:=h;rcases cK.1 g with rfl|g
  .apply dG;intro j;rw[n,eO,bM];cases p.testBit j<;>simp
  .have B:=zJl A g;apply dG;intro j;have f:=congrArg (fun x=>x.testBit j) B;simp only[eO]at f;rw[n,eO,bM];cases h7:p.testBit j
   .simp
   .rw[h7,EE]at f;rw[f];simp
theorem zJH {z:Nat->Prop}:∀{ps:List Nat} {s p:Nat},LS.Pt z s ps->p∈ps->p≠0/\z p
 |q::ps,s,p,h,f=>by
  obtain⟨r,A,B,g,j,n⟩:=h;rcases cK.1 f with rfl|f
  .exact⟨j,g⟩
  .exact zJH n f
def Bld (k:Nat)(h:Eng.Heap)(G:List (Hd×Nat)):Prop:=∀g∈G,g.1.2.1=(acc g.2 k).length/\eG 0 h 3 g.1.1 g.1.2.1 g.1.2.2 (nz (acc g.2 k))
theorem Bld.ext (B:Bld k h G)(x:Ext h h'):Bld k h' G:=fun g f=>⟨(B g f).1,(B g f).2.ext x⟩
theorem zLC {α β:Type}{f:α->β}{T S:List β}(p:T.Perm S):∀{G:List α},G.map f=S->∃G':List α,G'.Perm G/\G'.map f=T:=by
 induction p with
 |nil=>intro G h;exact⟨G,.refl _,h⟩
 |cons x p ih=>
  intro G h
  match G,h with
  |g::G,h=>
   rw[iq]at h;injection h with h1 h2
   obtain⟨G',A,e⟩:=ih h2;exact⟨g::G',A.cons g,by rw[iq,h1,e]⟩
 |swap x y l=>
  intro G h
  match G,h with
  |g::g'::G,h=>
   rw[iq,iq]at h;injection h with h1 h2
   injection h2 with h2 h3
   exact⟨g'::g::G,.swap _ _ _,by rw[iq,iq,h1,h2,h3]⟩
 |trans p q ihp ihq=>
  intro G h;obtain⟨D,B,n⟩:=ihq h;obtain⟨j,C,r⟩:=ihp n;exact⟨j,C.trans B,r⟩
theorem zIB {p:Nat}(h0:p≠0)(hk:∀i,p.testBit i=true->i<k):0<(acc p k).length:=by
 obtain⟨i,f⟩:=xK h0;exact List.length_pos_of_mem (zDg.2 ⟨hk i f,f⟩)
theorem zLX {p r:Nat}(hd:p&&&r=0):∀n,(acc (p|||r) n).length=(acc p n).length+(acc r n).length
 |0=>rfl
 |n+1=>by
  have g:=zLX hd n;have f:=LS.zDb hd n;rw[zEM,zEM,zEM,bQ,bQ,bQ,g,bM];cases h2:p.testBit n<;>cases h3:r.testBit n
  .simp
  .simp;omega
  .simp;omega
  .exact absurd ⟨h2,h3⟩ f
theorem zJm {z:Nat->Prop}{n:Nat}:∀{ps:List Nat} {s:Nat},LS.Pt z s ps->(∀i,s.testBit i=true->i<n)->ps.length<=(acc s n).length
 |[],s,_,_=>zw _
 |q::ps,s,h,hb=>by
  obtain⟨r,f,j,B,p,A⟩:=h;have D:=zJm (n:=n) A fun i g=>hb i (by rw[f,bM,g,Bool.or_true])
  have C:=zIB (k:=n) p fun i g=>hb i (by rw[f,bM,g,Bool.true_or])
  rw[f,zLX j,aZ];omega
theorem zGP {k:Nat}{xs:List Int}(O:eG m h 3 a len cap xs)(hb:h[gb]? =some (.cells cur 29 (0,0)))(u:Upd h h' gb):eG m h' 3 a len cap xs:=
 O.keep fun p f=>u.old _ fun e=>by
  rcases O.ok with⟨j,_⟩|⟨g,c,j,q,n,_⟩
  .rw[j]at f;cases f
  rw[j]at f;cases f;have e:g=gb:=e;rw[e,hb]at n;cases n
theorem Bld.upd (B:Bld k h G)(hb:h[gb]? =some (.cells cur 29 (0,0)))(u:Upd h h' gb):Bld k h' G:=fun g f=>⟨(B g f).1,zGP (k:=k) (B g f).2 hb u⟩
theorem zJv {g:Hd×Nat}(B:Bld k h G)(hb:h[gb]? =some (.cells cur 29 (0,0)))(hg:g∈G)(hp:0<(acc g.2 k).length)(u:Upd h h' gb):jL h' (lg g.1.1 0)=some (.int .i64 ((acc g.2 k).getD 0 0:Nat)):=by
 have O:=zGP (k:=k) (B g hg).2 hb u;have c:=O.ints.cell (j:=0) (by rw[zDS];exact hp);rw[zEW]at c;exact c
theorem zL9 {g:Hd×Nat}(B:Bld k h G)(hg:g∈G)(hp:0<(acc g.2 k).length):0<g.1.2.1/\g.1.1.isSome=true:=by
 have f:=B g hg;rw[<-f.1]at hp;refine⟨hp,?_⟩;rcases f.2.ok with⟨_,j,_⟩|⟨g,c,j,_⟩
 .omega
 .rw[j];rfl
def zPD (h:Eng.Heap)(u:Hd):Int:=match jL h (lg u.1 0)with|some (.int _ x)=>x|_=>0
def zP9 (k:Nat)(l:Nat->Int)(h:Eng.Heap)(v:Value)(h':Eng.Heap):Prop:=(∃a n c G,v= .slice a n c/\G.length=n/\iV h.size h' 29 1 a n c (zDT (G.map (·.1)))/\Bld k h' G/\G.Pairwise (fun x y=>(acc x.2 k).getD 0 0<=(acc y.2 k).getD 0 0)/\(∃ps,(G.map (·.2)).Perm ps/\LS.Pt (LS.zero l 8) (LS.msk (LS.opn l) 8) ps)/\LS.Most (LS.zero l 8) (LS.msk (LS.opn l) 8) n)/\Ext h h'
theorem zJa (h:Eng.Heap):ak aS 238 #[.slice none 0 0,.int .i64 0,.int .i64 0,.func (.func 112) #[] #[]] h (fun v h'=>h'=h):=by
 (refine Rm Tryz.func238 rfl zLf ?_;simp only[Tryz.ntmps238,Tryz.results238,coreS,U1,splice,aC,af,Nat.reduceAdd,Nat.reduceSub,Nat.reduceMul,Nat.reduceLeDiff,Int.reduceEq,Nat.reduceEqDiff,zD7])
 refine⟨by rw[zBS];omega,?_⟩;refine zAi [8,9,12,13,14,15,16,17,18,19,20,21,22,23,24,25,26,27,28,29,30,31,32,33,34,35,36,37,38,39,40,41,42,43,44,45,46,47,48,49,50,51,52] (fun e h'=>h'=h/\e 8= .int .i64 1) (fun _ _=>0) ⟨rfl,rfl⟩ ?_;rintro e h' ⟨rfl,f⟩;simp only[f,show¬(1:Int)<0 by omega,decide_false,coreS,aC,af,Nat.reduceAdd,Nat.reduceSub,Nat.reduceMul,Nat.reduceLeDiff,Int.reduceEq,Nat.reduceEqDiff,zD7]
theorem zJk (rr:Int)(h:Eng.Heap):ak aS 169 #[.slice none 0 0,.int .i64 0,.int .i64 0,.int .i64 rr,.func (.func 112) #[] #[]] h (fun v h'=>h'=h):=by
 (refine Rm Tryz.func169 rfl zLe ?_;simp only[Tryz.ntmps169,Tryz.results169,coreS,U1,splice,aC,af,Nat.reduceAdd,Nat.reduceSub,Nat.reduceMul,Nat.reduceLeDiff,Int.reduceEq,Nat.reduceEqDiff,zDO])
 refine zAi [1,2,3,10,11,12,13,14,15,16,17,18,19,20,21,22,23,24,25,26,27,28,29,30,31,32,33,34,35,36,37,38,39,40,41,42,43,44,45,46,47,48,49,50,51,52,53,54,55,56,57,58,59,60,61,62,63,64,65,66,67,68,69,70,71,72,73,74,75,76,77,78,79,80,81,82,83,84,85,86,87,88,89,90,91,92,93,94,95,96,97,98,99,100,101,102,103,104,105,106,107,108,109,110,111,112,113,114,115,116,117,118,119,120,121,122,123,124,125,126,127,128,129,130,131,132,133,134,135,136,137,138,139,140,141,142,143,144,145,146,147] (fun e h'=>h'=h/\e 1= .int .i64 0/\e 2= .int .i64 0/\e 3= .int .i64 rr) (fun _ _=>0) ⟨rfl,rfl,rfl,rfl⟩ ?_;rintro e h' ⟨rfl,f,g,j⟩;have p:(0:Int)-0<=12:=by omega
 simp only[f,g,j,p,decide_true,coreS,aC,af,Nat.reduceAdd,Nat.reduceSub,Nat.reduceMul,Nat.reduceLeDiff,Int.reduceEq,Nat.reduceEqDiff,zDO];refine⟨by rw[zBS];omega,?_⟩;refine ak.mono (zJa h') ?_;rintro v q n;simp only[coreS,aC,af,Nat.reduceAdd,Nat.reduceSub,Nat.reduceMul,Nat.reduceLeDiff,Int.reduceEq,Nat.reduceEqDiff,zDO];exact n
theorem zG0 (h:Eng.Heap):ak aS 111 #[.slice none 0 0,.func (.func 112) #[] #[]] h (fun v h'=>h'=h):=by
 (refine Rm Tryz.func111 rfl zLb ?_;simp only[Tryz.ntmps111,Tryz.results111,coreS,U1,splice,aC,af,Nat.reduceAdd,Nat.reduceSub,Nat.reduceMul,Nat.reduceLeDiff,Int.reduceEq,Nat.reduceEqDiff,zDN])
 refine⟨by rw[zBY];omega,?_⟩;refine ak.mono (zMR 0 (by omega) h) ?_;rintro v f ⟨⟨r,rfl⟩,rfl⟩;simp only[coreS,aC,af,Nat.reduceAdd,Nat.reduceSub,Nat.reduceMul,Nat.reduceLeDiff,Int.reduceEq,Nat.reduceEqDiff,zDN];refine ak.mono (zJk r f) ?_;rintro v j g;simp only[coreS,aC,af,Nat.reduceAdd,Nat.reduceSub,Nat.reduceMul,Nat.reduceLeDiff,Int.reduceEq,Nat.reduceEqDiff,zDN];exact g
end
end Go.Proofs.YtejmkibjpaoahaaGreatDoor
namespace Go.Proofs.YtejmkibjpaoahaaGreatDoor
open Go Go.Proofs Go.Eng Go.Run Tab
section
variable {P:Program}{h:Eng.Heap}{k:Operand}{ty u:TypeId}{x:Operand}
set_option maxHeartbeats 4000000
def zCK:=(aD (aD (aD (aD @zFp (aD @zLZ @zFq)) (aD (aD @zD2 @zI8) (aD @zI9 @by3))) (aD (aD (aD @zIJ @zIK) (aD @zEO @zIk)) (aD (aD @zGA @zHE) (aD @zFP @zE3)))) (aD (aD (aD (aD @zDX @zM5) (aD @zHs @zJO)) (aD (aD @sz2 @zGF) (aD @sz3 @zFM))) (aD (aD (aD @zGe @zJq) (aD @zDf @Tryz.underlying29)) (aD (aD @Tryz.underlying71 @Tryz.underlying103) (aD @Tryz.underlying182 @Tryz.underlying185)))))
theorem zJC {e:Eng.Env}{K:Value->Eng.Heap->Prop}:opW P (.mapEntry u x k) ty e h K=aI P (.mapEntry u x k) ty e h K:=by
 unfold opW pvW zH;rfl
theorem zKO {y:Operand}{e:Eng.Env}{K:Value->Eng.Heap->Prop}:opW P (.entryStore u x k y) ty e h K=aI P (.entryStore u x k y) ty e h K:=by
 unfold opW pvW zH;rfl
theorem zHB (g0 k:Nat)(cl:Int)(a:Option Addr)(n c:Nat)(es:List En)(day:Int)(h:Eng.Heap)(hb0:h[g0]? =some (.cells #[.int .i64 k,.int .i64 cl,.slice a n c] 181))(hr:Row h a (zDA es))(hn:n=es.length)(hl:n<=20)(hok:∀e∈es,okE k e)(hk:k<=8)(hne:∀e∈es,e.f≠e.t):
 ak aS 51 #[.pointer (some ⟨g0,0,none⟩),.int .i64 day] h (zP9 k (fun i=>(zCd 8 es day).getD i 0) h):=by
 (refine Rm Tryz.func51 rfl zQE ?_;simp only[Tryz.ntmps51,Tryz.results51,coreS,U1,splice,aC,af,seval,zCK])
 refine ak.mono (zEN g0 k cl a n c es day h hb0 hr hn hl hok (by omega) hne) ?_;rintro v A ⟨rfl,x1⟩;obtain⟨xs,Z⟩:∃xs,xs=zCd 8 es day:=⟨_,rfl⟩;have hxl:xs.length=8:=by rw[Z,zCS]
 rw[<-Z];obtain⟨b0,b1,b2,b3,b4,b5,b6,b7,h8⟩:∃b0 b1 b2 b3 b4 b5 b6 b7:Int,xs=[b0,b1,b2,b3,b4,b5,b6,b7]:=by
  match xs,hxl with
  |[b0,b1,b2,b3,b4,b5,b6,b7],_=>exact⟨b0,b1,b2,b3,b4,b5,b6,b7,rfl⟩
 have h9:(ints xs).toArray= #[.int .i64 b0,.int .i64 b1,.int .i64 b2,.int .i64 b3,.int .i64 b4,.int .i64 b5,.int .i64 b6,.int .i64 b7]:=by rw[h8];rfl
 rw[h9];simp only[coreS,U1,splice,aC,af,seval,zCK];rw[<-h9];have q5:=jD (h:=A) (o:= .cells (ints xs).toArray 103);have xq:Ext A (A.push (.cells (ints xs).toArray 103)):=(Ext.refl A).push _;refine ak.mono (zM8 xs hxl _) ?_;rintro v r ⟨⟨aO,cO,rfl,OO⟩,x2⟩;have y2:=(x1.trans xq).trans x2;have hg2:=y2.get hb0;obtain⟨o,ho⟩:∃o,o=zDc xs 8:=⟨_,rfl⟩;rw[<-ho]at OO ⊢;have ho8:∀i∈o,i<8:=fun i M=>by
  rw[ho]at M;exact aX.1 (bR.1 M).1
 have hol:o.length<=8:=by rw[ho];exact zFi xs 8
 have hN:2^k<=256:=by
  have:2^k<=2^8:=sW (by decide) hk;simpa using this
 have eN:(1:Int)*2^k=((2^k:Nat):Int):=by rw[Int.one_mul];simp
 obtain⟨N,hNe⟩:∃N,N=2^k:=⟨_,rfl⟩;rw[<-hNe]at eN hN;have q52:r[A.size]? =some (.cells (ints xs).toArray 103):=x2.get q5;have xm:Ext r (r.push (.map #[] 0)):=(Ext.refl r).push _;have hgm:=xm.get hg2;simp only[hgm,eN,aW,coreS,aC,af,seval,zCK];refine⟨by omega,by simp[IntKind.bits];omega,by rw[zBS];omega,?_⟩;have eb:=r.size;have heb1:A.size<r.size:=bA q52;refine zAi [8,9,11,34,35,36,37,38,39,40,41,42,43,44,45,46,47,48,49,50,51,52,53,54,55,56,57,58] (fun e h'=>Chg (r.push (.map #[] 0)) h' r.size/\∃m:Nat,m<=N/\e 34= .int .i64 m/\∃em V,jU kvG h' r.size em V/\EvI (fun i=>xs.getD i 0) o m 0 em) (fun e _=>match e 34 with| .int _ q=>N-q.toNat|_=>0) ⟨Chg.refl _ _,0,by omega,rfl,[],0,jU.empty r,EvI.start⟩ ?_;rintro e3 I ⟨c3,m,hm,he3,em,V,M3,E3⟩;by_cases hmN:m<N
 .have hlt:(m:Int)<(N:Int):=by omega
  have meas:N-((m:Int)+1).toNat<N-(m:Int).toNat:=by omega
  simp only[he3,hlt,decide_true,coreS,U1,splice,aC,af,seval,zCK];have x3:Ext I (I.push (.cells #[.int .i64 (m:Nat)] 184)):=(Ext.refl I).push _;have hs3:=c3.size;rw[Rh]at hs3;have qg:=jD (h:=I) (o:= .cells #[.int .i64 (m:Nat)] 184);have I3:eu (I.push (.cells #[.int .i64 (m:Nat)] 184)) aO o.length (nz o):=((OO.ints.ext xm).chg (jU.empty (kv:=kvG) r).obj c3).ext x3;have q3:(I.push (.cells #[.int .i64 (m:Nat)] 184))[A.size]? =some (.cells (ints xs).toArray 103):=x3.get (c3.get (xm.get q52) (by omega));refine zAi [11,41,42,43,44,45,46,47,48,49,50,51,52,53,54,55,56,57] (fun e h'=>Chg (I.push (.cells #[.int .i64 (m:Nat)] 184)) h' r.size/\∃j:Nat,j<=o.length/\e 41= .int .i64 j/\∃em V,jU kvG h' r.size em V/\EvI (fun i=>xs.getD i 0) o m j em) (fun e _=>match e 41 with| .int _ q=>o.length-q.toNat|_=>0) ⟨Chg.refl _ _,0,by omega,rfl,em,V,M3.ext x3,E3⟩ ?_;rintro e4 h4 ⟨c4,j,hj,he4,O,cm4,M4,E4⟩;have hs4:=c4.size;rw[Rh]at hs4;by_cases hjo:j<o.length
  case neg=>
   obtain rfl:j=o.length:=by omega
   simp only[he3,he4,show¬((o.length:Int)<(o.length:Int)) by omega,decide_false,coreS,aC,af,seval,zCK];exact⟨by rw[zBS];omega,Zr (by kernel_rfl) ⟨(c3.ext x3).trans c4,m+1,by omega,rfl,O,cm4,M4,E4.next⟩ meas⟩
  have hltj:(j:Int)<(o.length:Int):=by omega
  have K:o.length-((j:Int)+1).toNat<o.length-(j:Int).toNat:=by omega
  obtain⟨i,M⟩:∃i,i=o.getD j 0:=⟨_,rfl⟩;have hio:i∈o:=by rw[M,aN,aF hjo];exact cZ hjo
  have hi8:=ho8 i hio;have I4:=I3.chg (M3.ext x3).obj c4;have ci:=I4.cell (j:=j) (by rw[zDS];exact hjo);have si:=I4.isSome (by rw[zDS];omega);rw[zEW,<-M]at ci;have qg4:=c4.get qg (by omega);have q4:=c4.get q3 (by omega);simp only[he4,hltj,ci,qg4,decide_true,aW,coreS,aC,af,seval,zCK];refine⟨by omega,si,?_⟩;refine ak.mono (zMG m i (by omega) hi8 h4) ?_;rintro v h5 ⟨rfl,x5⟩;have M5:=M4.ext x5;cases hbit:m.testBit i with
  |false=>
   simp only[he4,coreS,aC,af,seval,zCK];exact⟨by rw[zBS];omega,Zr (by kernel_rfl) ⟨c4.ext x5,j+1,by omega,rfl,O,cm4,M5,E4.skip hjo (by rw[<-M];exact hbit)⟩ K⟩
  |true=>
  have hvl:(fZ m O).getD (.int .i64 0)= .int .i64 (LS.zCo (fS (fun i=>xs.getD i 0) m) (o.take j)):=by
   rw[E4.get,if_neg (by omega),if_pos rfl,zMm]
  have qg5:=x5.get qg4;have q55:=x5.get q4;have ce:(ints xs)[i]? =some (.int .i64 (xs.getD i 0)):=Cn _ _ (by omega);simp only[coreS,aC,af,seval,zCK];have hbd:∀i∈o,-20000<=fS (fun i=>xs.getD i 0) m i/\fS (fun i=>xs.getD i 0) m i<=20000:=fun i M=>by
   have A:xs.getD i 0=zDI es day (i:Int):=by rw[Z];exact zCm es day (ho8 i M)
   have r:=zDq day (i:Int) hok;have I:1000*(es.length:Int)<=20000:=by omega
   unfold fS;split
   .show-20000<=xs.getD i 0/\xs.getD i 0<=20000;rw[A];omega
   .omega
  have hls:=zHK (B:=20000) (by decide) (F:=fS (fun i=>xs.getD i 0) m) (l:=o.take j) fun i M=>hbd i (qO M)
  have hlt2:(o.take j).length<=8:=by rw[lC];omega
  have hxi: -20000<=xs.getD i 0/\xs.getD i 0<=20000:=by
   have:=hbd i hio;unfold fS at this;rw[if_pos hbit]at this;exact this
  have hlm:A.size<r.size:=heb1;have gm5:r.size<=h5.size:=by have:=x5.size;omega
  refine zA5 (by kernel_rfl) (r.size) (.pure 0 (.pure 3 (.pure 4 (.load 5 (.keep 1 (.fork 2 7 (.pure 6 (.keep 7 (.pure 8 (.keep 9 (.fin))))) (.pure 8 (.keep 2 (.pure 6 (.keep 9 (.fin))))))))))) (by kernel_rfl) rfl (by kernel_rfl) ?_;simp only[qg5,q55,ce,aW,coreS,aC,af,seval,drawS,treeS,XD,zCK];refine⟨⟨by omega,by omega⟩,hlm,?_⟩;have hvl2:(fZ m (fF m ((fZ m O).getD (.int .i64 0)) cm4 O)).getD (.int .i64 0)= .int .i64 (LS.zCo (fS (fun i=>xs.getD i 0) m) (o.take j)):=by
   rw[UD,if_pos rfl];exact hvl
  have Eadd:EvI (fun i=>xs.getD i 0) o m (j+1) (fF m (.int .i64 (LS.zCo (fS (fun i=>xs.getD i 0) m) (o.take j)+xs.getD i 0)) (jJ m O cm4) (fF m ((fZ m O).getD (.int .i64 0)) cm4 O)):=by
   have:=E4.add (c1:=cm4) (c2:=jJ m O cm4) (v:=(fZ m O).getD (.int .i64 0)) hjo (by rw[<-M];exact hbit);rw[<-M]at this;exact this
  refine ZG ?_;simp only[qg5,coreS,aC,af,seval,drawS,treeS,XD,zCK];refine⟨RB.refl _ _,?_⟩;refine YG ?_ ?_
  .simp only[coreS,aC,af,seval,drawS,treeS,XD,zCK];refine zAU mM zFm zFe M5 (a:=m) (by rfl) (by rfl) ?_;simp only[kz,if_false,hvl,coreS,aC,af,seval,drawS,treeS,XD,zCK];refine⟨RB.refl _ _,by rw[zBS];omega,?_⟩;refine ZG ?_;simp only[zJC,coreS,aC,af,seval,drawS,treeS,XD,zCK];refine Zh mM zFm zFe M5 (a:=m) (by rfl) (by rfl) fun h6 w M6 hw6 u6=>⟨RB.zCD u6 (bi _),?_⟩
   simp only[coreS,aC,af,seval,drawS,treeS,XD,zCK];refine ZG ?_;simp only[zKO,coreS,aC,af,seval,drawS,treeS,XD,zCK];refine zBM M6 hw6 (Zg E4.nd) (v:= .int .i64 (LS.zCo (fS (fun i=>xs.getD i 0) m) (o.take j)+xs.getD i 0)) (by rfl) (by rfl) (by rfl) fun h7 M7 u7=>⟨RB.zCD u7 (bi _),?_⟩
   exact⟨by rw[zBS];omega,Zr (by kernel_rfl) ⟨((c4.ext x5).upd u6).upd u7,j+1,by omega,rfl,_,_,M7,Eadd⟩ K⟩
  .simp only[zJC,coreS,aC,af,seval,drawS,treeS,XD,zCK];refine Zh mM zFm zFe M5 (a:=m) (by rfl) (by rfl) fun h6 w M6 hw6 u6=>⟨RB.zCD u6 (bi _),?_⟩
   simp only[coreS,aC,af,seval,drawS,treeS,XD,zCK];refine ZG ?_;simp only[coreS,aC,af,seval,drawS,treeS,XD,zCK];refine zAU mM zFm zFe M6 (a:=m) (by rfl) (by rfl) ?_;simp only[kz,if_false,hvl2,coreS,aC,af,seval,drawS,treeS,XD,zCK];refine⟨RB.refl _ _,by rw[zBS];omega,?_⟩;refine ZG ?_;simp only[zKO,coreS,aC,af,seval,drawS,treeS,XD,zCK];refine zBM M6 hw6 (Zg E4.nd) (v:= .int .i64 (LS.zCo (fS (fun i=>xs.getD i 0) m) (o.take j)+xs.getD i 0)) (by rfl) (by rfl) (by rfl) fun h7 M7 u7=>⟨RB.zCD u7 (bi _),?_⟩
   exact⟨by rw[zBS];omega,Zr (by kernel_rfl) ⟨((c4.ext x5).upd u6).upd u7,j+1,by omega,rfl,_,_,M7,Eadd⟩ K⟩
 obtain rfl:m=N:=by omega
 have hE:∀s,fZ s em=if s<m then zFl (fun i=>xs.getD i 0) s o else none:=fun s=>by
  rw[E3.get];by_cases A:s<m
  .rw[if_pos A,if_pos A]
  .rw[if_neg A,if_neg A];split<;>rfl
 have hVx:∀x∈em,x.2.1= .int .i64 (LS.zCo (fS (fun i=>xs.getD i 0) x.1) o):=fun x hx=>by
  have A:=HV E3.nd hx rfl;rw[hE]at A;split at A
  .unfold zFl at A;split at A
   .exact(Option.some.inj A).symm
   .cases A
  .cases A
 have hs3:=c3.size;rw[Rh]at hs3;simp only[he3,show¬((m:Int)<(m:Int)) by omega,decide_false,coreS,aC,af,seval,zCK];refine Yg mM M3 (by rfl) ?_;simp only[coreS,aC,af,seval,zCK];refine zAi [12,13,61,62,63,64,65,66,67,68,69] (fun e h'=>Chg I h' r.size/\∃D eZ c0,h'[I.size]? =some (.mapIter (some r.size) V D c0)/\V<=c0/\jU kvG h' r.size eZ V/\eZ.Sublist em/\(∀x∈em,LS.zCo (fS (fun i=>xs.getD i 0) x.1) o=0->x∈eZ)/\(∀x∈eZ,D.contains x.2.2=true->LS.zCo (fS (fun i=>xs.getD i 0) x.1) o=0)) (fun _ h'=>XP I.size r.size h') ⟨Chg.Sg ((Ext.refl _).push _) _,#[],em,V,jD,bi _,M3.ext ((Ext.refl _).push _),List.Sublist.refl _,fun x hx _=>hx,fun x hx hs=>by simp at hs⟩ ?_;rintro e4 h4 ⟨c4,D,eZ,c0,hit,hc0,M4,C,hin,Y⟩;have hμ:=zAW M4 hit;have hr4:=bA hit;have hs4:=c4.size;simp only[coreS,aC,af,seval,zCK];refine zAK M4 hit M4.lt hc0 (by rfl) ?_ ?_
 .intro hall;simp only[coreS,aC,af,seval,zCK];have hZn:(eZ.map (·.1)).Nodup:=E3.nd.sublist (C.map _);have hZ:∀s,(fZ s eZ).isSome=true<->s<m/\o.any (fun i=>s.testBit i)=true/\LS.zCo (fS (fun i=>xs.getD i 0) s) o=0:=fun s=>by
   constructor
   .intro hs;obtain⟨v,hv⟩:=Option.isSome_iff_exists.1 hs;obtain⟨w,hw⟩:=Tt hv;have A:=Y _ hw (hall _ hw);have r:=hE s;rw[HV E3.nd (C.subset hw) rfl]at r;split at r
    .rename_i hlt;refine⟨hlt,?_,A⟩;unfold zFl at r;split at r
     .assumption
     .cases r
    .cases r
   .rintro⟨A,r,I⟩;have h4:=hE s;rw[if_pos A]at h4;unfold zFl at h4;rw[if_pos r]at h4;obtain⟨w,hw⟩:=Tt h4;rw[HV hZn (hin _ hw I) rfl];rfl
  clear hall Y hin C hμ hit;refine Oy jD (by simp) fun h5 g5 u5=> ?_
  simp only[splice,gL,eD]at g5;have s5:=u5.size;rw[Rh]at s5;have c5:Chg I h5 r.size:=(c4.trans (Chg.Sg ((Ext.refl h4).push (.cells #[.int .i64 0] 184)) r.size)).zBk u5 (by omega);have M5:jU kvG h5 r.size eZ V:=(M4.ext ((Ext.refl h4).push (.cells #[.int .i64 0] 184))).keep (u5.old _ (by omega));have I5:eu h5 aO o.length (nz o):=((OO.ints.ext xm).chg (jU.empty (kv:=kvG) r).obj c3).chg M3.obj c5;have hg5:h5[g0]? =some (.cells #[.int .i64 k,.int .i64 cl,.slice a n c] 181):=c5.get (c3.get hgm (by have:=bA hg2;omega)) (by have:=bA hg2;omega);simp only[coreS,aC,af,seval,zCK];have OO5:=((OO.ext xm).keep (h':=I) fun p hp=>c3.old _ (by have:=(OO.lt hp).1;rw[Rh];omega) (by have:=(OO.lt hp).1;omega)).keep (h':=h5) fun p hp=>c5.old _ (by have:=(OO.lt hp).1;omega) (by have:=(OO.lt hp).1;omega)
  refine zAi [16,73,74,75,76,77,78,79,80,81,82,83] (fun e h'=>Upd h5 h' h4.size/\∃t:Nat,t<=o.length/\e 73= .int .i64 t/\∃w:Nat,w<256/\(∀i,w.testBit i=true<->i∈o.take t)/\h'[h4.size]? =some (.cells #[.int .i64 w] 184)) (fun e _=>match e 73 with| .int _ q=>o.length-q.toNat|_=>0) ⟨Upd.refl _ _,0,by omega,rfl,0,by omega,fun i=>by rw[kS];simp,g5⟩ ?_;rintro e6 h6 ⟨u6,t,ht,he6,w,hw,E,g6⟩;by_cases hto:t<o.length
  .have hlt:(t:Int)<(o.length:Int):=by omega
   have meas:o.length-((t:Int)+1).toNat<o.length-(t:Int).toNat:=by omega
   obtain⟨i,M⟩:∃i,i=o.getD t 0:=⟨_,rfl⟩;have hio:i∈o:=by rw[M,aN,aF hto];exact cZ hto
   have hi8:=ho8 i hio;have OO6:=OO5.keep (h':=h6) fun p hp=>u6.old _ (by have:=(OO.lt hp).1;omega)
   have ci:=OO6.ints.cell (j:=t) (by rw[zDS];exact hto);have si:=OO6.ints.isSome (by rw[zDS];omega);rw[zEW,<-M]at ci;have e1i:(1:Int)*2^i=((2^i:Nat):Int):=by rw[Int.one_mul];simp
   have h2i:2^i<=128:=by
    have:2^i<=2^7:=sW (by decide) (by omega);simpa using this
   have eor:=zMC w (2^i) (by omega) (by omega);simp only[he6,hlt,ci,decide_true,aW,coreS,aC,af,seval,zCK];refine⟨by omega,si,?_⟩;refine zB9 (by kernel_rfl) zBp [(0,0),(1,0),(2,0),(3,0),(4,0),(5,0),(6,1)] (by kernel_rfl) rfl (by kernel_rfl) ?_;simp only[g6,e1i,eor,aW,Ye,coreS,aC,af,seval,drawS,zCK];have hInK:∀z:Nat,z<=128->InK .i64 (z:Int):=fun z hz=>by rw[zBS];omega
   refine⟨by omega,by simp[IntKind.bits];omega,hInK _ h2i,?_⟩;refine Oy (c:=[.int .i64 w]) g6 (by simp) fun h7 g7 u7=> ?_
   simp only[splice,gL,eD]at g7;simp only[he6,Ye,coreS,aC,af,seval,drawS,zCK];refine⟨by rw[zBS];omega,Zr (by kernel_rfl) ⟨u6.trans u7,t+1,by omega,rfl,w|||2^i,?_,fun x=> ?_,g7⟩ meas⟩
   .have:=Nat.or_lt_two_pow (n:=8) (x:=w) (y:=2^i) (by omega) (by omega);simpa using this
   .have e:o.take (t+1)=o.take t++[i]:=by
     rw[gY,aF hto,M,aN,aF hto];rfl
    rw[e,cz,bv,bM,Nat.testBit_two_pow,ed,E,decide_eq_true_eq];constructor
    .rintro(h|h)
     .exact .inl h
     .exact .inr h.symm
    .rintro(h|h)
     .exact .inl h
     .exact .inr h.symm
  obtain rfl:t=o.length:=by omega
  rw[IK]at E;simp only[he6,g6,show¬((o.length:Int)<(o.length:Int)) by omega,decide_false,coreS,aC,af,seval,zCK];have hEv:=zLn Z hok hNe (by rw[<-ho];exact E) (by rw[<-ho];exact hZ);have hAz:=zL2 Z hok hk (by rw[<-ho];exact E);have hAm:=zMw Z (by rw[<-ho];exact E);have s6:=u6.size;have M6:jU kvG h6 r.size eZ V:=M5.keep (u6.old _ (by omega));have xf:Ext h6 (h6.push (.map #[] 0)):=(Ext.refl h6).push _;have hM6:=bA M6.obj;have F6:Fnd (LS.zero (fun i=>xs.getD i 0) 8) (h6.push (.map #[] 0)) h6.size [] 0:=⟨jU.empty h6,fun s v hv=>by cases hv⟩;refine ak.mono (zKd (fun i=>xs.getD i 0) 8 w r.size h6.size V eZ hw (by omega) hEv w [] 0 _ (Nat.and_self w) hAz (M6.ext xf) F6) ?_;rintro v h8 ⟨⟨a8,n8,k8,ps,rfl,hn8,O8,hpt,hmost⟩,c8,fs,fc,F8⟩;simp only[coreS,aC,af,seval,zCK];have g8:h8[g0]? =some (.cells #[.int .i64 k,.int .i64 cl,.slice a n c] 181):=c8.get (xf.get (u6.get hg5 (by have:=bA hg2;omega))) (by have:=bA hg2;omega);have hnw:n8<=256:=by have:=zOJ hpt;omega
  refine zAi [17,19,20,21,89,90,91,92,93,94,95,96,97,98,99,100,101,102,103,104,105,106,107,108,109,110,111,112,113] (fun e h'=>Ext h8 h'/\∃j:Nat,j<=n8/\e 89= .int .i64 j/\∃aL cL G,e 17= .slice aL j cL/\G.length=j/\iV h8.size h' 29 1 aL j cL (zDT (G.map (·.1)))/\Bld k h' G/\G.map (·.2)=ps.take j) (fun e _=>match e 89 with| .int _ q=>n8-q.toNat|_=>0) ⟨Ext.refl _,0,by omega,rfl,none,0,[],rfl,rfl,iV.nil _ _ _ _,(fun g J=>by cases J),rfl⟩ ?_;rintro e9 h9 ⟨x9,j,hj,he9,aL,cL,G,heL,hGl,OL,hB,hGp⟩;by_cases hjn:j<n8
  case neg=>
   obtain rfl:n8=j:=by omega
   simp only[he9,heL,show¬((n8:Int)<(n8:Int)) by omega,decide_false,coreS,aC,af,seval,zCK];have hXX:Ext h h8:=by
    have z2:=y2.size;have w3:Ext h I:=Chg.fresh (y2.trans xm) c3 z2;have w5:Ext h h5:=Chg.fresh w3 c5 z2;have w6:Ext h h6:=u6.ext w5 (by omega);exact Chg.fresh (w6.trans xf) c8 (by omega)
   have hp1:∀g∈G,0<(acc g.2 k).length:=fun g J=>by
    have A:g.2∈ps:=by
     have r:g.2∈G.map (·.2):=bz.2 ⟨g,J,rfl⟩;rw[hGp]at r;exact qO r
    have r:=zJl hpt A;refine zIB (zJH hpt A).1 fun i M=> ?_
    rw[<-r,eO,aY]at M;have I:=(E i).1 M.2;rw[ho]at I;obtain⟨h4,h5⟩:=zDo.1 I;refine xM fun hle=>h5 ?_
    rw[Z,zCm es day h4];exact zEo hok hle
   have hps:ps.take n8=ps:=bI (by omega);rw[hps]at hGp;rcases OL.ok with⟨rfl,e1,rfl⟩|⟨gb,cur,rfl,hgb,hcur,hcs,hnc,htk⟩
   .subst e1;refine ak.mono (zG0 h9) ?_;rintro v h10 rfl;simp only[coreS,aC,af,seval,zCK];have hG0:G=[]:=List.length_eq_zero_iff.1 hGl;subst hG0;exact⟨⟨none,0,0,[],rfl,rfl,iV.nil _ _ _ _,hB,lX,⟨ps,by rw[hGp],by rw[<-hAm];exact hpt⟩,by rw[<-hAm];exact hmost⟩,hXX.trans x9⟩
   have hcw:cur=(zDT (G.map (·.1))++cur.toList.drop (n8*1)).toArray:=by rw[<-htk];simp
   obtain⟨tl,htl⟩:∃tl,tl=cur.toList.drop (n8*1):=⟨_,rfl⟩;rw[<-htl]at hcw;have hk9:∀g∈G,zPD h9 g.1=((acc g.2 k).getD 0 0:Nat):=fun g J=>by
    unfold zPD;rw[zJv hB hcur J (hp1 g J) (Upd.refl h9 gb)]
   have hnl:n8<=8:=by
    have A:=zJm (n:=8) hpt fun i M=>ho8 i ((E i).1 M)
    have r:=zIA w 8;omega
   refine ak.mono (zJL gb cL n8 (zPD h9) (G.map (·.1)) tl h9 (by rw[<-hcw];exact hcur) (by simp[hGl]) (by omega) fun u hu=> ?_) ?_
   .obtain⟨g,J,rfl⟩:=bz.1 hu;have A:=zL9 hB J (hp1 g J);have r:(acc g.2 k).getD 0 0<8:=by
     have I:=hp1 g J;rw[aN,aF I];have:=(zDg.1 (cZ I)).1;show(acc g.2 k)[0]<8;omega
    refine⟨A.1,A.2,by rw[hk9 g J];omega,fun h' u=> ?_⟩;rw[hk9 g J];exact zJv hB hcur J (hp1 g J) u
   rintro v h10 ⟨u10,T,hTp,hTs,hT10⟩;simp only[coreS,aC,af,seval,zCK];obtain⟨G',hGp',hGm'⟩:=zLC hTp rfl;have C:∀g∈G',g∈G:=fun g J=>hGp'.subset J
   refine⟨⟨_,n8,cL,G',rfl,by rw[hGp'.length_eq,hGl],⟨?_,.inr ⟨gb,_,rfl,by have:=hXX.size;omega,hT10,?_,hnc,?_⟩⟩,fun g J=>(hB.upd hcur u10) g (C g J),?_,⟨ps,by rw[<-hGp];exact hGp'.map _,by rw[<-hAm];exact hpt⟩,by rw[<-hAm];exact hmost⟩,u10.ext (hXX.trans x9) (by have:=hXX.size;omega)⟩
   .rw[zDC,ek,hGp'.length_eq,hGl,Nat.mul_one]
   .have A:=congrArg Array.size hcw;have r:=hTp.length_eq;simp only[kX,bQ,zDC,ek]at A r ⊢;omega
   .rw[hGm',List.toList_toArray,rO (by rw[zDC,hTp.length_eq,ek,hGl];omega),bI (by rw[zDC,hTp.length_eq,ek,hGl];omega)]
   .rw[<-hGm',rz]at hTs;refine hTs.imp_of_mem fun{x y} hx hy hxy=> ?_
    rw[hk9 x (C x hx),hk9 y (C y hy)]at hxy;omega
  have hltj:(j:Int)<(n8:Int):=by omega
  have K:n8-((j:Int)+1).toNat<n8-(j:Int).toNat:=by omega
  have hjp:j<ps.length:=by omega
  obtain⟨p,hp⟩:∃p,p=ps[j]:=⟨_,rfl⟩;have O9:=O8.ext x9;have cp:gm h9 (lg a8 j) 1=some [.int .i64 (p:Nat)]:=by
   rw[O9.row.cells (j:=j) (n:=1) (by rw[aR,zDS];omega) (by decide),qp (by rw[aR,zDS];omega),hp];simp[ints,nz]
  have s8:a8.isSome=true:=by
   rcases O9.ok with⟨_,A,_⟩|⟨g,cur,A,_⟩
   .omega
   .rw[A];rfl
  have pw:p&&&w=p:=zJl hpt (by rw[hp];exact cZ hjp);simp only[he9,heL,hltj,cp,decide_true,aW,coreS,aC,af,seval,zCK];refine⟨by omega,s8,?_⟩;refine Oy jD (by simp) fun h10 g10 u10=> ?_
  simp only[splice,gL,eD,bK,bS,aZ,bL]at g10;have s10:=u10.size;rw[Rh]at s10;have x10:Ext h9 h10:=u10.ext ((Ext.refl h9).push _) (bi _);have g10b:h10[g0]? =some (.cells #[.int .i64 k,.int .i64 cl,.slice a n c] 181):=x10.get (x9.get g8);have OL10:=OL.ext x10;have hB10:=hB.ext x10;have ip:p<256:=by
   have:p&&&w<=w:=Nat.and_le_right;omega
  simp only[g10b,coreS,aC,af,seval,zCK];refine zAi [20,21,98,99,100,101,102,103,104,105,106,107,108] (fun e h'=>Ext h10 h'/\∃i:Nat,i<=k/\e 98= .int .i64 i/\∃aA cA,e 20= .slice aA (acc p i).length cA/\eG h10.size h' 3 aA (acc p i).length cA (nz (acc p i))) (fun e _=>match e 98 with| .int _ q=>k-q.toNat|_=>0) ⟨Ext.refl _,0,by omega,rfl,none,0,rfl,eG.nil _ _ _⟩ ?_;rintro e11 h11 ⟨x11,i,M,W,aA,cA,heA,OA⟩;by_cases hik:i<k
  case neg=>
   obtain rfl:k=i:=by omega
   simp only[he9,heL,W,heA,show¬((k:Int)<(k:Int)) by omega,decide_false,splice,gL,eD,bK,bS,aZ,bL,coreS,aC,af,seval,zCK];have xg:Ext h11 (h11.push (.cells #[.slice aA (acc p k).length cA] 29)):=(Ext.refl h11).push _;have xx:=x11.trans xg;have OL11:=OL10.ext xx;have z8:h8.size<=h11.size:=mK x9.size (mK x10.size x11.size);refine zPc (m0:=h8.size) (len:=j) (T:=G.map (·.1)) (U:=[(aA,(acc p k).length,cA)]) rfl rfl OL11 (by rw[Rh];omega) (Row.block (c:=zDT [(aA,(acc p k).length,cA)]) jD) rfl (by omega) fun a' cap' h5 O5 A5=> ?_
   have OAg:=zGO (OA.ext xg) A5 OL11 (by decide);have hB5:Bld k h5 (G++[((aA,(acc p k).length,cA),p)]):=fun g J=>by
    rcases cz.1 J with J|J
    .have A:=(hB10.ext xx) g J;exact⟨A.1,zGO A.2 A5 OL11 (by decide)⟩
    .rw[bv.1 J];exact⟨rfl,OAg.mono (zw _)⟩
   simp only[he9,heL,W,heA,coreS,aC,af,seval,zCK];refine⟨by rw[zBS];omega,Zr (by kernel_rfl) ⟨A5.extV OL11 ((x9.trans x10).trans xx) (bi _),j+1,by omega,rfl,a',cap',G++[((aA,(acc p k).length,cA),p)],rfl,by simp[hGl],by rw[mI];exact O5,hB5,?_⟩ K⟩;rw[mI,hGp,gY,aF hjp,<-hp];rfl
  have hlti:(i:Int)<(k:Int):=by omega
  have measi:k-((i:Int)+1).toNat<k-(i:Int).toNat:=by omega
  have g11:=x11.get g10;have nx:=zEM p i;have le:=zIA p i;simp only[W,heA,hlti,g11,decide_true,aW,coreS,aC,af,seval,zCK];refine ak.mono (zMG p i (by omega) (by omega) h11) ?_;rintro v h12 ⟨rfl,x12⟩;cases hbit:p.testBit i with
  |false=>
   rw[if_neg (by rw[hbit];decide),bK]at nx;simp only[W,heA,coreS,aC,af,seval,zCK];exact⟨by rw[zBS];omega,Zr (by kernel_rfl) ⟨x11.trans x12,i+1,by omega,rfl,aA,cA,by rw[nx];rfl,by rw[nx];exact OA.ext x12⟩ measi⟩
  |true=>
   rw[if_pos hbit]at nx;simp only[W,heA,coreS,aC,af,seval,zCK];have OA':=(OA.ext x12).ext ((Ext.refl h12).push (.cells #[.int .i64 (i:Int)] 3));refine zJu (m0:=h10.size) (len:=(acc p i).length) (m:=1) (ys:=[(i:Int)]) rfl rfl OA' (by rw[Rh];have:=(x11.trans x12).size;omega) (zDD jD) (by omega) fun a' cap' h5 O5 A5=> ?_
   have ell:(acc p i).length+1=(acc p (i+1)).length:=by rw[nx];simp
   rw[zKN,<-nx,ell]at O5;simp only[W,coreS,aC,af,seval,zCK];refine⟨by rw[zBS];omega,Zr (by kernel_rfl) ⟨A5.extN OA' ((x11.trans x12).push _) (bi _),i+1,by omega,rfl,a',cap',by rw[<-ell];rfl,O5⟩ measi⟩
 .intro x hx Z h5 hr5 u5;simp only[coreS,aC,af,seval,zCK];have M5:jU kvG h5 r.size eZ V:=M4.keep (u5.old _ (by omega));simp only[Zd];refine Yi M5 hx hr5 (by rfl) ?_;have hxv:=hVx x (C.subset hx);simp only[hxv,kvG,coreS,aC,af,seval,zCK];refine Oy jD (by simp) fun h6 g6 u6=> ?_
  simp only[splice,gL,eD]at g6;have s5:=u5.size;have s6:=u6.size;rw[Rh]at s6;have c6:Chg I h6 r.size:=((c4.zBk u5 (bi _)).trans (Chg.Sg ((Ext.refl h5).push (.cells #[.int .i64 0] 184)) r.size)).zBk u6 (by omega);have hr6:h6[I.size]? =some (.mapIter (some r.size) V (D.push x.2.2) V):=u6.get (Jy hr5) (by omega);have M6:jU kvG h6 r.size eZ V:=(M5.ext ((Ext.refl h5).push (.cells #[.int .i64 0] 184))).keep (u6.old _ (by omega));have hnod:(eZ.map (·.1)).Nodup:=E3.nd.sublist (C.map _);have hbn:∀y∈eZ,y.2.2=x.2.2->y=x:=fun y hy hye=>zBU M4.born hy hx hye
  have X:∀w:Nat,(D.push x.2.2).contains w=(D.contains w||decide (w=x.2.2)):=fun w=>by
   simp[Array.contains_push,eq_comm]
  have hdec:(eZ.filter fun y=> !(D.push x.2.2).contains y.2.2).length<(eZ.filter fun y=> !D.contains y.2.2).length:=by
   refine Go.Eng.filter_lt (fun y hy=> ?_) hx ?_ ?_
   .rw[X];simp;exact fun h _=>h
   .simpa using Z
   .simp[X]
  by_cases h0:LS.zCo (fS (fun i=>xs.getD i 0) x.1) o=0
  .simp only[h0,g6,decide_true,bP,coreS,aC,af,seval,zCK];refine Zr (by kernel_rfl) ⟨c6,D.push x.2.2,eZ,V,hr6,bi _,M6,C,hin,fun y hy H=> ?_⟩ ?_
   .rw[X,ed,decide_eq_true_eq]at H;rcases H with H|H
    .exact Y y hy H
    .rw[hbn y hy H];exact h0
   .rw[zAW M6 hr6,hμ];exact hdec
  .simp only[h0,g6,decide_false,bJ,coreS,aC,af,seval,zCK];refine zBF mM zFe M6 (a:=x.1) (by rfl) (by rfl) fun h7 M7 u7=> ?_
   simp only[coreS,aC,af,seval,zCK];have hr7:h7[I.size]? =some (.mapIter (some r.size) V (D.push x.2.2) V):=u7.get hr6 (by omega);refine Zr (by kernel_rfl) ⟨c6.upd u7,D.push x.2.2,_,V,hr7,bi _,M7,zY.trans C,fun y hy hyc=> ?_,fun y hy H=> ?_⟩ ?_
   .refine(zFt hnod).2 ⟨hin y hy hyc,fun hye=>h0 ?_⟩;rw[<-hye];exact hyc
   .obtain⟨hy1,hy2⟩:=(zFt hnod).1 hy;rw[X,ed,decide_eq_true_eq]at H;rcases H with H|H
    .exact Y y hy1 H
    .exact absurd (by rw[hbn y hy1 H]) hy2
   .rw[zAW M7 hr7,hμ];refine Nat.lt_of_le_of_lt ?_ hdec;exact(zY.filter _).length_le
end
end Go.Proofs.YtejmkibjpaoahaaGreatDoor
namespace Go.Proofs.YtejmkibjpaoahaaGreatDoor
open Go Go.Proofs Go.Eng Go.Run Tab
set_option maxHeartbeats 4000000
def zCi:=(aD (aD (aD @zEn @by3) (aD @zDX @zEw)) (aD (aD @sz3 @zHV) (aD @zDf (aD @Tryz.underlying29 @Tryz.underlying71))))
def l8 (es:List En)(day:Int)(i:Nat):Int:=(zCd 8 es day).getD i 0
theorem zHP (es:List En)(day:Int):(zDc (zCd 8 es day) 8).length=LS.opens (l8 es day) 8:=rfl
theorem zLq (acc cl:Int)(a:Option Addr)(n c:Nat)(es:List En)(day:Int)(h:Eng.Heap)(hr:Row h a (zDA es))(hn:n=es.length)(hl:n<=1000000):
 ak aS 17 #[.agg #[.int .i64 acc,.int .i64 cl,.slice a n c],.int .i64 day] h (fun v h'=>((opn acc cl es [day]=0/\∃j:Nat,LS.Most (LS.zero (l8 es day) 8) (LS.msk (LS.opn (l8 es day)) 8) j/\j<=8/\v= .tuple #[.int .i64 ((LS.opens (l8 es day) 8:Nat)-(j:Nat):Int),.int .i64 0])\/
  (opn acc cl es [day]≠0/\v= .tuple #[.int .i64 0,.int .i64 (opn acc cl es [day])]))/\Ext h h'):=by
 (refine Rm Tryz.func17 rfl zPk ?_;simp only[Tryz.ntmps17,Tryz.results17,coreS,U1,splice,aC,af,seval,zCi])
 refine ak.mono (zGD acc cl a n c es _ 1 1 [day] _ ((hr.push _).push _) hn hl (zDD pn1) (by omega)) ?_;rintro v r ⟨M,H⟩;have C:=M.zBe.zBe;rcases H with⟨f,g,rfl,I,hsz⟩|⟨f,rfl⟩
 .obtain⟨Y,hd⟩:=zEz f;obtain⟨X,hl2,Z,q,hso,p⟩:=zDw Y;obtain⟨k,rfl⟩:∃k:Nat,acc=k:=⟨acc.toNat,by omega⟩;have A:=M.get pn0;simp only[A,coreS,aC,af,seval,zCi];refine ak.mono (zEN g k cl a n c es day r I (hr.ext C) hn (by omega) q X.2 p) ?_;rintro v D ⟨rfl,N⟩;simp only[coreS,aC,af,seval,zCi];refine ak.mono (zM8 (zCd 8 es day) (zCS _ _ _) D) ?_;rintro v E ⟨⟨aO,cO,rfl,OO⟩,O⟩;simp only[coreS,aC,af,seval,zCi];have T:=(C.trans N).trans O;refine ak.mono (zHB g k cl a n c es day E ((N.trans O).get I) (hr.ext T) hn (by omega) q (by omega) p) ?_;rintro v h4 ⟨⟨a4,K,c4,G,rfl,W,O4,B4,S4,⟨ps,U,V⟩,hm⟩,x4⟩;have B:K<=8:=by
   have r:=U.length_eq;have D:=zJm (n:=8) V fun i J=>by
    rw[LS.zCl,aY,decide_eq_true_eq]at J;exact J.1
   have E:=zIA (LS.msk (LS.opn fun i=>(zCd 8 es day).getD i 0) 8) 8;rw[ek]at r;omega
  have hO:=zFi (zCd 8 es day) 8;simp only[coreS,aC,af,seval,zCi];exact⟨by rw[zBS];omega,.inl ⟨f,K,hm,B,rfl⟩,T.trans x4⟩
 .simp only[f,decide_false,bJ,coreS,aC,af,seval,zCi];exact⟨.inr f,C⟩
theorem zHS {F:Nat->Int}{k:Nat}(hF:∀i,k<=i->F i=0):∀d,LS.sm F (k+d)=LS.sm F k
 |0=>rfl
 |d+1=>by
  show LS.sm F (k+d)+F (k+d)=LS.sm F k;rw[zHS hF d,hF _ (by omega)];omega
end Go.Proofs.YtejmkibjpaoahaaGreatDoor
namespace Go.Proofs.YtejmkibjpaoahaaGreatDoor
open Go Go.Proofs Go.Eng Go.Run Tab
section
variable {day:Int}{es:List En}{i:Nat}
set_option maxHeartbeats 4000000
structure Pm where
 f:Int
 t:Int
 a:Int
def pmV (p:Pm):List Value:=[.int .i64 p.f,.int .i64 p.t,.int .i64 p.a]
def zDj (ps:List Pm):List Value:=ps.flatMap pmV
theorem zJF (ps qs:List Pm):zDj (ps++qs)=zDj ps++zDj qs:=by simp[zDj]
theorem zD8 (ps:List Pm):(zDj ps).length=ps.length*3:=by
 induction ps with
 |nil=>rfl
 |cons p ps ih=>
  show(pmV p++zDj ps).length=_;rw[bQ,ih];simp[pmV];omega
theorem zHo:∀(ps:List Pm) (j:Nat),(zDj ps).drop (j*3)=zDj (ps.drop j)
 |ps,0=>by simp
 |[],j+1=>by simp[zDj]
 |p::ps,j+1=>by
  have f:(pmV p++zDj ps).drop 3=zDj ps:=by simp[pmV]
  show(pmV p++zDj ps).drop ((j+1)*3)=zDj (ps.drop j);rw[show(j+1)*3=3+j*3 by omega,<-List.drop_drop,f,zHo ps j]
theorem zJG (ps:List Pm)(j:Nat)(hj:j<ps.length):((zDj ps).drop (j*3)).take 3=pmV ps[j]:=by
 rw[zHo,qp hj];show(pmV ps[j]++zDj _).take 3=_;simp[pmV]
theorem rowP {h:Eng.Heap}{a:Option Addr}{ps:List Pm}(hr:Row h a (zDj ps))(hi:i<ps.length):gm h (lg a (i*3)) 3=some [.int .i64 ps[i].f,.int .i64 ps[i].t,.int .i64 ps[i].a]:=by
 rw[hr.cells (j:=i*3) (n:=3) (by rw[zD8];omega) (by decide),zJG ps i hi];rfl
def okP (acc:Int)(p:Pm):Prop:=(0<=p.f/\p.f<acc)/\(0<=p.t/\p.t<acc)/\1<=p.a/\p.a<=20000
instance (acc:Int)(p:Pm):Decidable (okP acc p):=by unfold okP;infer_instance
def pmE (day:Int)(p:Pm):En:=⟨day,p.f,p.t,p.a⟩
def aft (es:List En)(day:Int)(ps:List Pm):List En:=es++ps.map (pmE day)
theorem zI2 {ps:List Pm}(hi:i<ps.length):aft es day (ps.take (i+1))=aft es day (ps.take i)++[pmE day ps[i]]:=by
 unfold aft;rw[gY,aF hi,mI,zk];rfl
theorem zJr (es:List En)(day:Int):aft es day []=es:=by simp[aft]
theorem zL3 (day i:Int)(p:Pm):amt day i (pmE day p)=(if p.t=i then p.a else 0)-(if p.f=i then p.a else 0):=by
 unfold amt;rw[if_pos (by show day<=day;omega)];rfl
theorem zGj {acc:Int}(day i:Int):∀{ps:List Pm},(∀p∈ps,okP acc p)-> -(20000*(ps.length:Int))<=zDI (ps.map (pmE day)) day i/\zDI (ps.map (pmE day)) day i<=20000*(ps.length:Int)
 |[],_=>by simp[zGi]
 |p::ps,h=>by
  have j:=zGj day i (ps:=ps) fun q f=>h q (bD _ f)
  have g:=(h p bE).2.2;rw[iq,zDi,zL3,aZ];have e:(20000:Int)*((ps.length+1:Nat):Int)=20000*(ps.length:Int)+20000:=by omega
  rw[e];split<;>split<;>omega
theorem zHZ {acc:Int}{ps:List Pm}(day i:Int)(hok:∀e∈es,okE acc e)(hl:es.length<=20)(hp:∀p∈ps,okP acc p)(hm:ps.length<=20): -420000<=zDI (aft es day ps) day i/\zDI (aft es day ps) day i<=420000:=by
 have f:=zDq day i hok;have g:=zGj day i hp;unfold aft;rw[zD0];omega
noncomputable def cpy (acc cl:Int)(es:List En)(day:Int)(ps:List Pm):Int×Int:=
 open Classical in
 if opn acc cl es [day]≠0 then(0,opn acc cl es [day])
 else if 20<ps.length then(0,6)
 else if¬∀p∈ps,okP acc p then(0,3)
 else if∃p∈ps,p.f=p.t then(0,16)
 else if¬∀i:Nat,i<8->zDI (aft es day ps) day (i:Int)=0 then(0,25)
 else((ps.length:Int),0)
noncomputable def zFO (acc cl:Int)(es:List En)(day:Int)(ps:List Pm):Value:= .tuple #[.int .i64 (cpy acc cl es day ps).1,.int .i64 (cpy acc cl es day ps).2]
theorem zOs {acc cl:Int}{ps:List Pm}(h:(cpy acc cl es day ps).2=0):opn acc cl es [day]=0/\ps.length<=20/\(∀p∈ps,okP acc p)/\(∀p∈ps,p.f≠p.t)/\(∀i:Nat,i<8->zDI (aft es day ps) day (i:Int)=0)/\(cpy acc cl es day ps).1=ps.length:=by
 unfold cpy at h ⊢;by_cases g:opn acc cl es [day]≠0
 .rw[if_pos g]at h;exact absurd h g
 rw[if_neg g]at h ⊢;by_cases r:20<ps.length
 .rw[if_pos r]at h;cases h
 rw[if_neg r]at h ⊢;by_cases j:¬∀p∈ps,okP acc p
 .rw[if_pos j]at h;cases h
 rw[if_neg j]at h ⊢;by_cases n:∃p∈ps,p.f=p.t
 .rw[if_pos n]at h;cases h
 rw[if_neg n]at h ⊢;by_cases q:¬∀i:Nat,i<8->zDI (aft es day ps) day (i:Int)=0
 .rw[if_pos q]at h;cases h
 rw[if_neg q];exact⟨sM.1 g,by omega,sM.1 j,fun p B A=>n ⟨p,B,A⟩,sM.1 q,rfl⟩
theorem zJ5 {acc cl:Int}{ps:List Pm}(h1:opn acc cl es [day]=0)(h2:ps.length<=20)(h3:∀p∈ps,okP acc p)(h4:∀p∈ps,p.f≠p.t)(h5:∀i:Nat,i<8->zDI (aft es day ps) day (i:Int)=0):cpy acc cl es day ps=((ps.length:Int),0):=by
 unfold cpy;rw[if_neg (by simpa using h1),if_neg (by omega),if_neg (fun h=>h h3),if_neg (by rintro⟨p,j,g⟩;exact h4 p j g),if_neg (fun h=>h h5)]
def toP (p:Pm):LS.P:=⟨p.f.toNat,p.t.toNat,p.a⟩
theorem zFy {acc day:Int}:∀{ps:List Pm} (l:Nat->Int),(∀p∈ps,okP acc p)->∀i,(ps.map toP).foldl LS.give l i=l i+zDI (ps.map (pmE day)) day (i:Int)
 |[],l,_,i=>by
  show l i=l i+zDI [] day i;rw[zGi];omega
 |p::ps,l,h,i=>by
  have n:=zFy (day:=day) (ps:=ps) (LS.give l (toP p)) (fun q j=>h q (bD _ j)) i;have g:=h p bE;rw[iq,List.foldl_cons,n,iq,zDi,zL3];unfold LS.give toP;have r:(i=p.f.toNat)=(p.f=(i:Int)):=propext (by have:=g.1;omega);have A:(i=p.t.toNat)=(p.t=(i:Int)):=propext (by have:=g.2.1;omega);simp only[r,A];split<;>split<;>omega
theorem zIR (hi:i<8):l8 es day i=zDI es day (i:Int):=zCm es day hi
def chL (l:Nat->Int):List Nat->List LS.P
 |[]=>[]
 |a::bs=>LS.chn l a (l a) bs
def zIZ (l:Nat->Int)(gs:List (List Nat)):List LS.P:=gs.flatMap (chL l)
theorem zJQ (l:Nat->Int):∀g:List Nat,LS.tot l g=LS.zCo l g
 |[]=>rfl
 |a::g=>by rw[LS.tot,LS.zCo,zJQ l g]
theorem zIb (l:Nat->Int)(g:List Nat)(c:Nat->Int)(hn:g.Nodup)(hc:∀i∈g,c i=l i)(hz:LS.zCo l g=0)(i:Nat):(chL l g).foldl LS.give c i=if i∈g then 0 else c i:=by
 match g,hn,hc,hz with
 |[],_,_,_=>rw[if_neg kC];rfl
 |a::bs,hn,hc,hz=>
  rw[LS.zCo]at hz;exact LS.zGJ l bs a (l a) c hn (hc a bE) (fun i f=>hc i (bD _ f)) (by rw[zJQ];exact hz) i
theorem zGS (l:Nat->Int):∀(gs:List (List Nat)) (c:Nat->Int),gs.flatten.Nodup->(∀g∈gs,∀i∈g,c i=l i)->(∀g∈gs,LS.zCo l g=0)->∀i,(zIZ l gs).foldl LS.give c i=if i∈gs.flatten then 0 else c i
 |[],c,_,_,_,i=>by
  rw[List.flatten_nil,if_neg kC];rfl
 |g::gs,c,hn,hc,hz,i=>by
  rw[zl,List.nodup_append]at hn;obtain⟨C,D,E⟩:=hn;have r:=zIb l g c C (hc g bE) (hz g bE);have B:=zGS l gs ((chL l g).foldl LS.give c) D (fun n f j A=>by
   rw[r,if_neg (fun h=>E j h j (IJ.2 ⟨n,f,A⟩) rfl)];exact hc n (bD _ f) j A) (fun n f=>hz n (bD _ f)) i
  show(chL l g++zIZ l gs).foldl LS.give c i=_;rw[List.foldl_append,B,r,zl];by_cases p:i∈gs.flatten
  .rw[if_pos p,if_pos (cz.2 (.inr p))]
  .rw[if_neg p];by_cases q:i∈g
   .rw[if_pos q,if_pos (cz.2 (.inl q))]
   .rw[if_neg q,if_neg (fun h=>(cz.1 h).elim q p)]
theorem zGp (l:Nat->Int)(g:List Nat)(h:g≠[]):(chL l g).length+1=g.length:=by
 match g,h with
 |a::bs,_=>show(LS.chn l a (l a) bs).length+1=_;rw[LS.zGq,aZ]
theorem zGR (l:Nat->Int):∀gs:List (List Nat),(∀g∈gs,g≠[])->(zIZ l gs).length+gs.length=gs.flatten.length
 |[],_=>rfl
 |g::gs,h=>by
  have p:=zGR l gs fun j f=>h j (bD _ f)
  have n:=zGp l g (h g bE);show(chL l g++zIZ l gs).length+_=_;rw[bQ,aZ,zl,bQ];omega
theorem zJz (l:Nat->Int):∀(bs:List Nat) (a:Nat) (x:Int),LS.chn l a x bs=(bn bs.length).map fun k=>LS.pay ((a::bs).getD k 0) ((a::bs).getD (k+1) 0) (x+LS.zCo l (bs.take k))
 |[],_,_=>rfl
 |b::bs,a,x=>by
  rw[LS.chn,zJz l bs b,aZ,List.range_succ_eq_map,iq,List.map_map];congr 1
  .show _=LS.pay a b (x+0);rw[Int.add_zero]
  .refine rM fun k _=> ?_
   show _=LS.pay ((b::bs).getD k 0) ((b::bs).getD (k+1) 0) (x+LS.zCo l ((b::bs).take (k+1)));rw[xU,LS.zCo];congr 1;omega
def prL (l:Nat->Int)(g:List Nat)(k:Nat):LS.P:=LS.pay (g.getD k 0) (g.getD (k+1) 0) (LS.zCo l (g.take (k+1)))
theorem zJx (l:Nat->Int)(g:List Nat):chL l g=(bn (g.length-1)).map (prL l g):=by
 match g with
 |[]=>rfl
 |a::bs=>
  show LS.chn l a (l a) bs=_;rw[zJz];refine rM fun k _=> ?_
  unfold prL;rw[xU,LS.zCo]
theorem zGg (p:Nat):∀(k j:Nat),∃m,m<=k/\(acc p k).take j=acc p m
 |0,j=>⟨0,bi _,by show eD j []=[];simp⟩
 |k+1,j=>by
  by_cases h:j<=(acc p k).length
  .obtain⟨m,g,f⟩:=zGg p k j;exact⟨m,by omega,by rw[zEM,rO h,f]⟩
  .refine⟨k+1,bi _,bI ?_⟩;rw[zEM,bQ];split
   .rw[List.length_singleton];omega
   .rw[bL];omega
theorem zFf (l:Nat->Int)(p:Nat):∀m,LS.zCo l (acc p m)=LS.sm (fun i=>if p.testBit i then l i else 0) m
 |0=>rfl
 |m+1=>by
  rw[zEM,LS.zDr,zFf l p m,LS.sm];congr 1;cases h:p.testBit m<;>simp[LS.zCo]
def zGY (p m:Nat):Nat:=LS.msk (fun i=>p.testBit i&&decide (i<m)) 8
theorem zKc {l:Nat->Int}{p m:Nat}(hm:m<=8):LS.zero l 8 (zGY p m)<->LS.zCo l (acc p m)=0:=by
 unfold LS.zero;have e:LS.sm (fun i=>if(zGY p m).testBit i then l i else 0) 8=LS.zCo l (acc p m):=by
  rw[zFf];have f:=zHS (F:=fun i=>if(zGY p m).testBit i then l i else 0) (k:=m) (fun i g=>by
   show(if(zGY p m).testBit i then l i else 0)=0;rw[zGY,LS.zCl,decide_eq_false (show¬i<m by omega)];simp) (8-m)
  rw[show m+(8-m)=8 by omega]at f;rw[f];refine LS.zDZ fun i g=> ?_
  rw[zGY,LS.zCl,decide_eq_true g,decide_eq_true (show i<8 by omega)];simp
 rw[e]
theorem zJE {A:Nat}(Q:Nat->Bool){day:Int}:∀{es:List En},(∀e∈es,okE A e)-> -(1000*(es.length:Int))<=LS.sm (fun i=>if Q i then zDI es day (i:Int)else 0) 8/\LS.sm (fun i=>if Q i then zDI es day (i:Int)else 0) 8<=1000*(es.length:Int)
 |[],_=>by
  rw[LS.zFk fun i _=>by rw[zGi];simp];simp
 |e::es,h=>by
  have K:=zJE Q (day:=day) (es:=es) fun x B=>h x (bD _ B)
  have r:=h e bE;obtain⟨_,I,J,H⟩:=r;have p:∀i,i<8->(if Q i then zDI (e::es) day (i:Int)else 0)=(if Q i then zDI es day (i:Int)else 0)+((if i=e.t.toNat then(if e.d<=day/\Q e.t.toNat then e.a else 0)else 0)+(if i=e.f.toNat then(if e.d<=day/\Q e.f.toNat then-e.a else 0)else 0)):=fun i _=>by
   have C:(e.t=(i:Int))=(i=e.t.toNat):=propext (by omega);have D:(e.f=(i:Int))=(i=e.f.toNat):=propext (by omega);rw[zDi];unfold amt;simp only[C,D];by_cases g:e.d<=day
   .by_cases j:i=e.t.toNat<;>by_cases n:i=e.f.toNat
    .rw[<-j,<-n];simp only[if_true,g,true_and];split<;>omega
    .rw[<-j];simp only[if_true,g,true_and,n,if_false];split<;>omega
    .rw[<-n];simp only[if_true,g,true_and,j,if_false];split<;>omega
    .simp only[j,n,if_false,g,if_true];split<;>omega
   .simp only[g,if_false,false_and,ite_self];split<;>omega
  rw[LS.zDZ p,LS.zEY,LS.zEY,LS.zEf,LS.zEf,aZ];have q:(1000:Int)*((es.length+1:Nat):Int)=1000*(es.length:Int)+1000:=by omega
  rw[q];have E: -1000<=(if e.t.toNat<8 then(if e.d<=day/\Q e.t.toNat=true then e.a else 0)else 0)+(if e.f.toNat<8 then(if e.d<=day/\Q e.f.toNat=true then-e.a else 0)else 0)/\(if e.t.toNat<8 then(if e.d<=day/\Q e.t.toNat=true then e.a else 0)else 0)+(if e.f.toNat<8 then(if e.d<=day/\Q e.f.toNat=true then-e.a else 0)else 0)<=1000:=by
   repeat' split
   all_goals omega
  omega
end
end Go.Proofs.YtejmkibjpaoahaaGreatDoor
namespace Go.Proofs.YtejmkibjpaoahaaGreatDoor
open Go Go.Proofs Go.Eng Go.Run Tab
section
variable {ps:List Pm}
set_option maxHeartbeats 4000000
def zCR:=(aD (aD (aD (aD @zFp (aD @zIC @zFq)) (aD @zD2 (aD @zEn @zI7))) (aD (aD @by3 (aD @zG4 @zG5)) (aD @zII (aD @zGA @zHD)))) (aD (aD (aD @zFP (aD @zDX @zEw)) (aD @zHs (aD @zJN @sz2))) (aD (aD @sz3 (aD @zHV @zFM)) (aD (aD @zGd @zDf) (aD @Tryz.underlying29 @Tryz.underlying51)))))
def zCz:=(aD (aD (aD @zFq (aD @zD2 @by3)) (aD @zG4 (aD @zG5 @zII))) (aD (aD @zEO (aD @zFP @zDX)) (aD (aD @sz2 @sz3) (aD @zDf @Tryz.underlying29))))
def zEB:=(aD (aD @zD2 @zG4) (aD @zG5 (aD @zDX @sz3)))
def zCu:=(aD (aD @zIC @zI7) (aD @zHD (aD @zJN @Tryz.underlying51)))
theorem zJ1 (acc cl:Int)(sl:Value)(p:Pm)(b:Nat)(h:Eng.Heap)(hb:h[b]? =some (.cells #[.int .i64 acc,.int .i64 cl,sl] 35))(ha:2<=acc/\acc<=8):
 ak aS 53 #[.agg #[.int .i64 p.f,.int .i64 p.t,.int .i64 p.a],.pointer (some ⟨b,0,none⟩)] h (fun v h'=>v= .bool (!decide (okP acc p))/\Ext h h'):=by
 (refine Rm Tryz.func53 rfl zQG ?_;simp only[Tryz.ntmps53,Tryz.results53,coreS,U1,splice,aC,af,seval,zCz])
 have A:¬(b=h.size):=by have:=bA hb;omega
 have H:=jD (h:=h) (o:= .cells #[.int .i64 p.f,.int .i64 p.t,.int .i64 p.a] 107);simp only[A,hb,if_false,splice,eD,gL,bS,dC,bK,aZ,bL,kY,Nat.reduceAdd,Nat.reduceLeDiff,if_true,coreS,aC,af,seval,zCz];refine⟨by rw[zBS];omega,?_⟩;refine ak.mono (zDz 0 (acc-1) _ 2 2 [p.f,p.t] _ (zGC pn1) (by omega)) ?_;rintro v I ⟨rfl,D⟩;have B:=D.zBe.zBe;have C:=D.get (Jy H);by_cases r:(0<=p.f/\p.f<=acc-1)/\0<=p.t/\p.t<=acc-1
 .have g:decide (okP acc p)=(decide (1<=p.a)&&decide (p.a<=20000)):=by
   rw[<-Bool.decide_and];refine decide_eq_decide.2 ?_;unfold okP;omega
  by_cases n:p.a<1
  .have j:¬1<=p.a:=by omega
   simp only[zEV,r,C,n,j,g,and_self,decide_true,decide_false,bP,bJ,Bool.false_and,coreS,aC,af,seval,zCz];exact B
  .have j:1<=p.a:=by omega
   have q:decide (20000<p.a)= !decide (p.a<=20000):=by by_cases E:p.a<=20000<;>simp[E]<;>omega
   simp only[zEV,r,C,n,j,g,q,and_self,decide_true,decide_false,bP,bJ,EE,coreS,aC,af,seval,zCz];exact B
 .have g:¬okP acc p:=by unfold okP;omega
  simp only[zEV,r,g,decide_false,bJ,coreS,aC,af,seval,zCz];exact B
theorem zJ2 (p:Pm)(h:Eng.Heap):
 ak aS 55 #[.agg #[.int .i64 p.f,.int .i64 p.t,.int .i64 p.a]] h (fun v h'=>v= .bool (decide (p.f=p.t))/\Ext h h'):=by
 (refine Rm Tryz.func55 rfl zQI ?_;simp only[Tryz.ntmps55,Tryz.results55,coreS,U1,splice,aC,af,seval,zEB])
 exact(Ext.refl h).push _
def zKl (q:Pm->Bool)(ps:List Pm):Int:=match ps.findIdx? q with|some i=>i|none=> -1
theorem zKm {q:Pm->Bool}(H:∀e∈ps,q e=false):zKl q ps= -1:=by
 have:ps.findIdx? q=none:=by rw[kL];exact fun x f=>by simp[H x f]
 simp[zKl,this]
theorem zKn {q:Pm->Bool}{i:Nat}(hi:i<ps.length)(H:∀e∈ps.take i,q e=false)(hp:q ps[i]=true):zKl q ps=i:=by
 have:ps.findIdx? q=some i:=by
  rw[dL];refine⟨hi,hp,fun j g=> ?_⟩;have f:j<ps.length:=by omega
  have:=H ps[j] (by rw[List.mem_take_iff_getElem];exact⟨j,by omega,rfl⟩);simp[this]
 simp[zKl,this]
theorem zIN (a:Option Addr)(n c:Nat)(ps:List Pm)(f:FuncId)(caps:Array Value)(q:Pm->Bool)(h:Eng.Heap)(hr:Row h a (zDj ps))(hn:n=ps.length)(hl:n<=1000000)
 (hq:∀p∈ps,∀h',Ext h h'->ak aS f (#[]++ #[.agg #[.int .i64 p.f,.int .i64 p.t,.int .i64 p.a]]++caps) h' (fun v h''=>v= .bool (q p)/\Ext h' h'')):
 ak aS 113 #[.slice a n c,.func (.func f) #[] caps] h (fun v h'=>v= .int .i64 (zKl q ps)/\Ext h h'):=by
 (refine Rm Tryz.func113 rfl zO1 ?_;simp only[Tryz.ntmps113,Tryz.results113,coreS,U1,splice,aC,af,seval,zCu])
 refine zAi [4,5,8,9,10,11,12,13,14,15,16,17,18] (fun g h'=>∃i:Nat,i<=n/\g 8= .int .i64 i/\(∀e∈ps.take i,q e=false)/\Ext h h') (fun g _=>match g 8 with| .int _ m=>n-m.toNat|_=>0) ?_ ?_
 .exact⟨0,by omega,rfl,by simp,Ext.refl h⟩
 .rintro g h' ⟨i,M,r,j,C⟩;by_cases H:i<ps.length
  .have J:a.isSome=true:=hr.isSome (by rw[zD8];omega);have I:=rowP (hr.ext C) H;simp only[r,I,coreS,aC,af,seval,zCu];refine⟨fun B=>⟨⟨by omega,by omega⟩,J,?_⟩,fun A=>absurd A (by omega)⟩;refine ak.mono (hq _ (cZ H) _ C) ?_;rintro v N ⟨rfl,D⟩;have K:ps.take (i+1)=ps.take i++[ps[i]]:=by rw[gY,aF H];rfl
   cases hp:q ps[i]
   .simp only[coreS,aC,af,seval,zCu];refine⟨by rw[zBS];omega,Zr (by kernel_rfl) ⟨i+1,by omega,rfl,fun e E=> ?_,C.trans D⟩ ?_⟩
    .rw[K,cz,bv]at E;rcases E with E|rfl
     .exact j e E
     .exact hp
    .show n-((i:Int)+1).toNat<n-(i:Int).toNat;omega
   .simp only[coreS,aC,af,seval,zCu];exact⟨by rw[zKn H j hp],C.trans D⟩
  .simp only[r,coreS,aC,af,seval,zCu];refine⟨fun B=>absurd B (by omega),fun A=> ?_⟩;rw[bI (by omega)]at j;exact⟨by rw[zKm j],C⟩
theorem zEk (a:Option Addr)(n c:Nat)(ps:List Pm)(f:FuncId)(caps:Array Value)(q:Pm->Bool)(h:Eng.Heap)(hr:Row h a (zDj ps))(hn:n=ps.length)(hl:n<=1000000)
 (hq:∀p∈ps,∀h',Ext h h'->ak aS f (#[]++ #[.agg #[.int .i64 p.f,.int .i64 p.t,.int .i64 p.a]]++caps) h' (fun v h''=>v= .bool (q p)/\Ext h' h'')):
 ak aS 54 #[.slice a n c,.func (.func f) #[] caps] h (fun v h'=>v= .bool (ps.any q)/\Ext h h'):=by
 (refine Rm Tryz.func54 rfl zQH ?_;simp only[Tryz.ntmps54,Tryz.results54,coreS,U1,splice,aC,af,seval])
 refine ak.mono (zIN a n c ps f caps q h hr hn hl hq) ?_;rintro v A ⟨rfl,g⟩;simp only[coreS,aC,af,seval];refine⟨?_,g⟩;congr 1;unfold zKl;cases hf:ps.findIdx? q with
 |none=>
  rw[kL]at hf;have:ps.any q=false:=by rw[List.any_eq_false];intro x g;simp[hf x g]
  simp[this]
 |some i=>
  rw[dL]at hf;obtain⟨j,r,_⟩:=hf;have:ps.any q=true:=by rw[lw];exact⟨ps[i],cZ j,r⟩
  simp[this]
theorem zI4 {acc:Int}:(ps.any fun p=> !decide (okP acc p))= !decide (∀p∈ps,okP acc p):=by
 rw[Bool.eq_iff_iff,lw,fw,decide_eq_false_iff_not];constructor
 .rintro⟨p,g,h⟩ f;rw[decide_eq_true (f p g)]at h;cases h
 .intro h;refine iL fun f=>h fun p g=>iL fun j=>f ⟨p,g,?_⟩
  rw[decide_eq_false j];rfl
theorem zH1:(ps.any fun p=>decide (p.f=p.t))=true<->∃p∈ps,p.f=p.t:=by
 rw[lw];exact⟨fun⟨p,g,h⟩=>⟨p,g,of_decide_eq_true h⟩,fun⟨p,g,h⟩=>⟨p,g,decide_eq_true h⟩⟩
theorem zH2 {es:List En}{day:Int}:zCd 8 es day=eQ 8 0<->∀i:Nat,i<8->zDI es day (i:Int)=0:=by
 constructor
 .intro h i f;rw[<-zCm es day f,h,aN,zt,if_pos f];rfl
 .intro h;refine zE1 (by rw[zCS];rfl) fun i f=> ?_
  rw[zCS]at f;rw[zCm es day f,h i f,aN,zt,if_pos f];rfl
theorem zPR (acc cl:Int)(a:Option Addr)(n c:Nat)(es:List En)(day:Int)(b:Option Addr)(m d:Nat)(ps:List Pm)(h:Eng.Heap)(hr:Row h a (zDA es))(hn:n=es.length)(hl:n<=1000000)(hp:Row h b (zDj ps))(hm:m=ps.length)(hml:m<=1000000):
 ak aS 18 #[.agg #[.int .i64 acc,.int .i64 cl,.slice a n c],.int .i64 day,.slice b m d] h (fun v h'=>v=zFO acc cl es day ps/\Ext h h'):=by
 (refine Rm Tryz.func18 rfl zPl ?_;simp only[Tryz.ntmps18,Tryz.results18,coreS,U1,splice,aC,af,seval,zCR])
 have q0:=jD (h:=h) (o:= .cells #[.int .i64 acc,.int .i64 cl,.slice a n c] 35);refine ak.mono (zGD acc cl a n c es _ 1 1 [day] _ ((hr.push _).push _) hn hl (zDD pn1) (by omega)) ?_;rintro v h1 ⟨x1,H⟩;have Z:=x1.zBe.zBe;rcases H with⟨e0,g,rfl,hg,hsz⟩|⟨e0,rfl⟩
 case inr=>
  simp only[e0,decide_false,bJ,coreS,aC,af,seval,zCR];refine⟨?_,Z⟩;unfold zFO cpy;rw[if_pos e0]
 obtain⟨hc,hd⟩:=zEz e0;obtain⟨ha,hl2,hcl,hok,hso,hft⟩:=zDw hc;have hb1:=x1.get pn0;have n0:¬(opn acc cl es [day]≠0):=by simpa using e0
 by_cases E:20<ps.length
 .have A:(20:Int)<(m:Int):=by omega
  simp only[A,decide_true,decide_false,bP,coreS,aC,af,seval,zCR];refine⟨?_,Z⟩;unfold zFO cpy;rw[if_neg n0,if_pos E]
 have A:¬(20:Int)<(m:Int):=by omega
 simp only[A,decide_true,decide_false,bP,coreS,aC,af,seval,zCR];refine ak.mono (zEk b m d ps 53 _ (fun p=> !decide (okP acc p)) h1 (hp.ext Z) hm hml fun p _ h' x'=>zJ1 acc cl _ p _ h' (x'.get hb1) ha) ?_;rintro v h2 ⟨rfl,x2⟩;rw[zI4];by_cases hall:∀p∈ps,okP acc p
 case neg=>
  rw[decide_eq_false hall];simp only[bJ,coreS,aC,af,seval,zCR];refine⟨?_,Z.trans x2⟩;unfold zFO cpy;rw[if_neg n0,if_neg E,if_pos hall]
 rw[decide_eq_true hall];simp only[bP,coreS,aC,af,seval,zCR];refine ak.mono (zEk b m d ps 55 #[] (fun p=>decide (p.f=p.t)) h2 ((hp.ext Z).ext x2) hm hml fun p _ h' x'=>zJ2 p h') ?_;rintro v h3 ⟨rfl,x3⟩;cases hex:ps.any fun p=>decide (p.f=p.t)with
 |true=>
  simp only[coreS,aC,af,seval,zCR];refine⟨?_,(Z.trans x2).trans x3⟩;unfold zFO cpy;rw[if_neg n0,if_neg E,if_neg (fun hh=>hh hall),if_pos (zH1.1 hex)]
 |false=>
 have U:∀p∈ps,p.f≠p.t:=fun p hp he=>by
  rw[zH1.2 ⟨p,hp,he⟩]at hex;cases hex
 have y3:=(Z.trans x2).trans x3;simp only[coreS,aC,af,seval,zCR];refine ak.mono (zEN g acc cl a n c es day h3 (x3.get (x2.get hg)) (hr.ext y3) hn (by omega) hok ha.2 hft) ?_;rintro v J ⟨rfl,x4⟩;have y4:=y3.trans x4;obtain⟨xs,X⟩:∃xs,xs=zCd 8 es day:=⟨_,rfl⟩;have hxl:xs.length=8:=by rw[X,zCS]
 rw[<-X];obtain⟨b0,b1,b2,b3,b4,b5,b6,b7,h8⟩:∃b0 b1 b2 b3 b4 b5 b6 b7:Int,xs=[b0,b1,b2,b3,b4,b5,b6,b7]:=by
  match xs,hxl with
  |[b0,b1,b2,b3,b4,b5,b6,b7],_=>exact⟨b0,b1,b2,b3,b4,b5,b6,b7,rfl⟩
 have h9:(ints xs).toArray= #[.int .i64 b0,.int .i64 b1,.int .i64 b2,.int .i64 b3,.int .i64 b4,.int .i64 b5,.int .i64 b6,.int .i64 b7]:=by rw[h8];rfl
 rw[h9];simp only[coreS,U1,splice,aC,af,seval,zCR];rw[<-h9,X];have q5:=jD (h:=J) (o:= .cells (ints (zCd 8 es day)).toArray 103);have xq:Ext J (J.push (.cells (ints (zCd 8 es day)).toArray 103)):=(Ext.refl J).push _;refine zAi [14,44,45,46,47,48,49,50,51,52,53,54,55,56] (fun e h'=>Ext J h'/\∃i:Nat,i<=m/\e 44= .int .i64 i/\h'[J.size]? =some (.cells (ints (zCd 8 (aft es day (ps.take i)) day)).toArray 103)) (fun e _=>match e 44 with| .int _ q=>m-q.toNat|_=>0) ⟨xq,0,by omega,rfl,by rw[CF,zJr];exact q5⟩ ?_;rintro e5 h5 ⟨x5,i,hi,M,q6⟩;have hz5:=x5.size;by_cases him:i<m
 case neg=>
  obtain rfl:m=i:=by omega
  rw[bI (by omega)]at q6;obtain⟨D,I⟩:∃D,D=zCd 8 (aft es day ps) day:=⟨_,rfl⟩;have Y:D.length=8:=by rw[I,zCS]
  rw[<-I]at q6;obtain⟨c0,c1,c2,c3,c4,c5,c6,c7,h18⟩:∃c0 c1 c2 c3 c4 c5 c6 c7:Int,D=[c0,c1,c2,c3,c4,c5,c6,c7]:=by
   match D,Y with
   |[c0,c1,c2,c3,c4,c5,c6,c7],_=>exact⟨c0,c1,c2,c3,c4,c5,c6,c7,rfl⟩
  have h19:(ints D).toArray= #[.int .i64 c0,.int .i64 c1,.int .i64 c2,.int .i64 c3,.int .i64 c4,.int .i64 c5,.int .i64 c6,.int .i64 c7]:=by rw[h18];rfl
  rw[h19]at q6;simp only[M,q6,show¬((m:Int)<(m:Int)) by omega,decide_false,show jh aS 103=false by kernel_rfl,zBW,coreS,aC,af,seval,zCR];refine XT (n:=8) (el:=2) (z:=ints (eQ 8 0)) Tryz.underlying103 zFP zFM ?_;simp only[coreS,aC,af,seval,zCR];rw[<-h19];refine ZT Pt.ok (ti:=(Pt.pr.ty 103).getD ⟨0,0,.any,.other,[]⟩) (by kernel_rfl) (a:= .agg (D.map (T.int .i64))) (b:= .agg ((eQ 8 (0:Int)).map (T.int .i64))) (r:=decide (D=eQ 8 0)) ?_ ?_ ?_ (.inr rfl) (by rfl) (by rfl) ?_
  .simp only[VR];exact⟨_,rfl,by simpa using FP D⟩
  .simp only[VR];exact⟨_,rfl,by simpa using FP (eQ 8 (0:Int))⟩
  .have:=EP D (eQ 8 0) (by rw[Y];rfl);rw[Y]at this;exact this
  by_cases hz:D=eQ 8 0
  .have C:=hz;rw[I,zH2]at C;rw[decide_eq_true hz];simp only[bP,if_false,reduceCtorEq,coreS,aC,af,seval,zCR];refine⟨?_,y4.trans x5⟩;unfold zFO;rw[zJ5 e0 (by omega) hall U C,hm]
  .have C:=hz;rw[I,zH2]at C;rw[decide_eq_false hz];simp only[bJ,if_false,reduceCtorEq,coreS,aC,af,seval,zCR];refine⟨?_,y4.trans x5⟩;unfold zFO cpy;rw[if_neg n0,if_neg E,if_neg (fun hh=>hh hall),if_neg (by rintro⟨p,hp,he⟩;exact U p hp he),if_pos C]
 have hlt:(i:Int)<(m:Int):=by omega
 have meas:m-((i:Int)+1).toNat<m-(i:Int).toNat:=by omega
 have O:i<ps.length:=by omega
 have hsm:b.isSome=true:=hp.isSome (by rw[zD8];omega);have K:=rowP ((hp.ext y4).ext x5) O;obtain⟨p,V⟩:∃p,p=ps[i]:=⟨_,rfl⟩;have hpm:p∈ps:=by rw[V];exact cZ O
 have B:=hall p hpm;have hnp:=U p hpm;rw[<-V]at K;obtain⟨f,hf⟩:∃f:Nat,p.f=f:=⟨p.f.toNat,by unfold okP at B;omega⟩;obtain⟨t,ht⟩:∃t:Nat,p.t=t:=⟨p.t.toNat,by unfold okP at B;omega⟩;have N:f<8:=by unfold okP at B;omega
 have W:t<8:=by unfold okP at B;omega
 have hpa:1<=p.a/\p.a<=20000:=B.2.2;have hbd:∀j:Int,-420000<=zDI (aft es day (ps.take i)) day j/\zDI (aft es day (ps.take i)) day j<=420000:=fun j=>zHZ day j hok hl2 (fun q hq=>hall q (qO hq)) (by rw[lC];omega)
 have hbf:=hbd f;have hbt:=hbd t;rw[hf,ht]at K;simp only[M,hlt,K,decide_true,aW,coreS,aC,af,seval,zCR];refine⟨by omega,hsm,?_⟩;refine Oy jD (by simp) fun h6 g6 u6=> ?_
 simp only[splice,eD,gL,bS,bK,aZ,bL]at g6;have x6:Ext h5 h6:=u6.ext ((Ext.refl h5).push _) (bi _);have q7:=x6.get q6;simp only[g6,coreS,aC,af,seval,zCR];refine ak.mono (zKD J.size _ f t p.a h6 q7 (zCS ..) N W ?_ ?_) ?_
 .rw[zCm _ _ N,zBS];omega
 .rw[zEP,if_neg (by omega),zCm _ _ W,zBS];omega
 rintro v h7 ⟨g7,u7⟩;have e7:zFU (zCd 8 (aft es day (ps.take i)) day) f t p.a=zCd 8 (aft es day (ps.take (i+1))) day:=by
  rw[zI2 O,<-V];exact zEZ (e:=pmE day p) (by show day<=day;omega) hf ht N W
 rw[e7]at g7;simp only[M,coreS,aC,af,seval,zCR];exact⟨by rw[zBS];omega,Zr (by kernel_rfl) ⟨u7.ext (x5.trans x6) (bi _),i+1,by omega,rfl,g7⟩ meas⟩
end
end Go.Proofs.YtejmkibjpaoahaaGreatDoor
namespace Go.Proofs.YtejmkibjpaoahaaGreatDoor
open Go Go.Proofs Go.Eng Go.Run Tab
section
variable {gs:List (List Int)}
set_option maxHeartbeats 4000000
theorem zIY {z:Nat->Prop}:∀{ps:List Nat} {s:Nat},LS.Pt z s ps->∀i,s.testBit i=true<->∃p∈ps,p.testBit i=true
 |[],s,h,i=>by
  have h:s=0:=h;rw[h,kS];simp
 |p::ps,s,⟨r,h1,h2,h3,h4,h5⟩,i=>by
  rw[h1,bM,ed,zIY h5 i];constructor
  .rintro(h|⟨q,f,h⟩)
   .exact⟨p,bE,h⟩
   .exact⟨q,bD _ f,h⟩
  .rintro⟨q,f,h⟩;rcases cK.1 f with rfl|f
   .exact .inl h
   .exact .inr ⟨q,f,h⟩
theorem zMb {z:Nat->Prop}:∀{ps:List Nat} {s:Nat},LS.Pt z s ps->ps.Pairwise fun p q=>p&&&q=0
 |[],s,h=>lX
 |p::ps,s,⟨r,h1,h2,h3,h4,h5⟩=>by
  refine List.pairwise_cons.2 ⟨fun q g=>LS.zDl fun i f=> ?_,zMb h5⟩;exact LS.zDb h2 i ⟨f.1,(zIY h5 i).2 ⟨q,g,f.2⟩⟩
structure GS (z:Nat->Prop)(s:Nat)(S:List Nat):Prop where
 dis:S.Pairwise fun p q=>p&&&q=0
 bits:∀i,s.testBit i=true<->∃p∈S,p.testBit i=true
 zer:∀p∈S,z p/\p≠0
theorem GS.of {z:Nat->Prop}{s:Nat}{S ps:List Nat}(h:S.Perm ps)(P:LS.Pt z s ps):GS z s S:=⟨(h.pairwise_iff (fun{x y} h=>by rw[Nat.and_comm];exact h)).2 (zMb P),fun i=>by
 rw[zIY P i];exact⟨fun⟨p,f,g⟩=>⟨p,h.mem_iff.2 f,g⟩,fun⟨p,f,g⟩=>⟨p,h.mem_iff.1 f,g⟩⟩,fun p f=>⟨(zJH P (h.mem_iff.1 f)).2,(zJH P (h.mem_iff.1 f)).1⟩⟩
theorem zFn (p k:Nat):(acc p k).Nodup:=ko _ pq
end
section made
variable {z:Nat->Prop}{s k:Nat}{S:List Nat}
theorem GS.low (G:GS z s S)(hk:∀i,s.testBit i=true->i<k){p:Nat}(hp:p∈S)(i:Nat)(hi:p.testBit i=true):i<k:=hk i ((G.bits i).2 ⟨p,hp,hi⟩)
theorem GS.ne (G:GS z s S)(hk:∀i,s.testBit i=true->i<k){p:Nat}(hp:p∈S):0<(acc p k).length:=zIB (G.zer p hp).2 (G.low hk hp)
theorem GS.zE8 (G:GS z s S):(S.map fun p=>acc p k).flatten.Nodup:=by
 refine List.pairwise_flatten.2 ⟨fun l f=> ?_,?_⟩
 .obtain⟨p,_,rfl⟩:=bz.1 f;exact zFn p k
 .rw[rz];refine G.dis.imp fun{p q} h x g y j e=> ?_
  subst e;exact LS.zDb h x ⟨(zDg.1 g).2,(zDg.1 j).2⟩
theorem GS.zIj (G:GS z s S)(hk:∀i,s.testBit i=true->i<k)(i:Nat):i∈(S.map fun p=>acc p k).flatten<->s.testBit i=true:=by
 rw[IJ];constructor
 .rintro⟨l,j,f⟩;obtain⟨p,g,rfl⟩:=bz.1 j;exact(G.bits i).2 ⟨p,g,(zDg.1 f).2⟩
 .intro h;obtain⟨p,g,f⟩:=(G.bits i).1 h;exact⟨_,bz.2 ⟨p,g,rfl⟩,zDg.2 ⟨hk i h,f⟩⟩
theorem zFZ {l m:List Nat}(hl:l.Nodup)(hm:m.Nodup)(h:∀x,x∈l<->x∈m):l.Perm m:=by
 have g:=LS.zEL hl fun x f=>(h x).1 f
 have j:=LS.zEL hm fun x f=>(h x).2 f
 exact LS.zMa hl (fun x f=>(h x).1 f) (by omega)
end made
theorem zJV {l:Nat->Int}{p k:Nat}(hk:k<=8)(hp:∀i,p.testBit i=true->i<k):LS.zero l 8 p<->LS.zCo l (acc p k)=0:=by
 rw[zFf];unfold LS.zero;have f:=zHS (F:=fun i=>if p.testBit i then l i else 0) (k:=k) (fun i g=>by
  show(if p.testBit i then l i else 0)=0;rw[if_neg];intro h;have:=hp i h;omega) (8-k)
 rw[show k+(8-k)=8 by omega]at f;rw[f]
end Go.Proofs.YtejmkibjpaoahaaGreatDoor
namespace Go.Proofs.YtejmkibjpaoahaaGreatDoor
open Go Go.Proofs Go.Eng Go.Run Tab
section
variable {cl day:Int}{es:List En}{k:Nat}{ps:List Nat}{t:Nat}
set_option maxHeartbeats 4000000
theorem zF0 (xs:List Int):(zDc xs 8).Nodup:=ko _ pq
theorem zFh (i:Nat):(LS.msk (LS.opn (l8 es day)) 8).testBit i=true<->i∈zDc (zCd 8 es day) 8:=by
 rw[LS.zCl,aY,decide_eq_true_eq,zDo];unfold LS.opn l8;simp
theorem zIT (hok:∀e∈es,okE k e)(i:Nat)(hi:(LS.msk (LS.opn (l8 es day)) 8).testBit i=true):i<k:=by
 obtain⟨g,j⟩:=zDo.1 ((zFh i).1 hi);refine xM fun f=>j ?_
 rw[zCm es day g];exact zEo hok f
def pmP (p:LS.P):Pm:=⟨p.a,p.b,p.x⟩
theorem zNo (p:LS.P):toP (pmP p)=p:=rfl
def zDk (l:Nat->Int)(k:Nat)(S:List Nat):List Pm:=(zIZ l (S.map fun p=>acc p k)).map pmP
theorem zMd (l:Nat->Int)(k:Nat)(S:List Nat):(zDk l k S).map toP=zIZ l (S.map fun p=>acc p k):=by
 unfold zDk;rw[List.map_map];have:(toP∘pmP)=id:=funext fun p=>zNo p
 rw[this,List.map_id]
theorem zPW {l:Nat->Int}{s p:Nat}(hk:k<=8)(hpt:LS.Pt (LS.zero l 8) s ps)(hm:LS.Most (LS.zero l 8) s ps.length)(hp:p∈ps)(hlow:∀i,p.testBit i=true->i<k)(ht:t+1<(acc p k).length):LS.zCo l ((acc p k).take (t+1))≠0:=by
 intro E;obtain⟨m,N,e⟩:=zGg p k (t+1);rw[e]at E;have J:(acc p m).length=t+1:=by rw[<-e,lC];omega
 have K:LS.zero l 8 (zGY p m):=(zKc (by omega)).2 E;obtain⟨q,f⟩:∃q,q=LS.msk (fun i=>p.testBit i&& !decide (i<m)) 8:=⟨_,rfl⟩;have j:p=zGY p m|||q:=by
  apply dG;intro i;rw[bM,f,zGY,LS.zCl,LS.zCl];cases hb:p.testBit i with
  |false=>simp
  |true=>
   have:i<8:=by have:=hlow i hb;omega
   rw[decide_eq_true this];cases decide (i<m)<;>rfl
 have I:zGY p m&&&q=0:=LS.zDl fun i A=>by
  rw[f,zGY,LS.zCl,LS.zCl]at A;simp at A;omega
 have D:=(zJH hpt hp).2;have C:LS.zero l 8 q:=by
  have r:=LS.zJJ l 8 I;rw[<-j]at r;unfold LS.zero at D K ⊢;omega
 refine LS.Pt.whole hpt hm hp j I K C (fun h=> ?_) fun h=> ?_
 .have H:0<(acc p m).length:=by omega
  have g:=zDg.1 (cZ H);have:=congrArg (fun n=>n.testBit (acc p m)[0]) h;have B:(acc p m)[0]<8:=by omega
  simp only[zGY,LS.zCl,kS,decide_eq_true B,g.2,decide_eq_true g.1,Bool.and_self]at this;cases this
 .have:=LS.zEL (zFn p k) (m:=acc p m) fun i A=>by
   obtain⟨H,g⟩:=zDg.1 A;refine zDg.2 ⟨?_,g⟩;refine xM fun M=> ?_
   have r:=congrArg (fun n=>n.testBit i) h;have B:i<8:=by omega
   simp only[f,LS.zCl,kS,decide_eq_true B,g,decide_eq_false (show¬i<m by omega)]at r;cases r
  omega
theorem zHp {p:Nat}(hk:k<=8)(hok:∀e∈es,okE k e)(hl:es.length<=20): -20000<=LS.zCo (l8 es day) ((acc p k).take t)/\LS.zCo (l8 es day) ((acc p k).take t)<=20000:=by
 obtain⟨m,n,e⟩:=zGg p k t;have f:=zJE (day:=day) (fun i=>p.testBit i&&decide (i<m)) hok;have j:LS.sm (fun i=>if(p.testBit i&&decide (i<m))=true then zDI es day (i:Int)else 0) 8=LS.zCo (l8 es day) (acc p m):=by
  rw[zFf];have f:=zHS (F:=fun i=>if(p.testBit i&&decide (i<m))=true then zDI es day (i:Int)else 0) (k:=m) (fun i g=>by
   show(if(p.testBit i&&decide (i<m))=true then zDI es day (i:Int)else 0)=0;rw[decide_eq_false (show¬i<m by omega)];simp) (8-m)
  rw[show m+(8-m)=8 by omega]at f;rw[f];refine LS.zDZ fun i g=> ?_
  rw[decide_eq_true g,Bool.and_true,zIR (by omega)]
 rw[j]at f;rw[e];omega
theorem zPV {l:Nat->Int}{g:List Nat}(ht:t+1<g.length)(hn:g.Nodup)(hb:∀i∈g,i<k)(h0:LS.zCo l (g.take (t+1))≠0)(h1: -20000<=LS.zCo l (g.take (t+1))/\LS.zCo l (g.take (t+1))<=20000):okP k (pmP (prL l g t))/\(pmP (prL l g t)).f≠(pmP (prL l g t)).t:=by
 have j:g.getD t 0=g[t]:=by rw[aN,aF (by omega)];rfl
 have n:g.getD (t+1) 0=g[t+1]:=by rw[aN,aF ht];rfl
 have q:=hb g[t] (cZ _);have r:=hb g[t+1] (cZ _);have p:g[t]≠g[t+1]:=List.pairwise_iff_getElem.1 hn t (t+1) (by omega) ht (by omega);unfold prL;rw[j,n];unfold LS.pay pmP okP;split
 .refine⟨⟨?_,?_,?_⟩,?_⟩<;>simp only<;>omega
 .refine⟨⟨?_,?_,?_⟩,?_⟩<;>simp only<;>omega
theorem zHm {S:List Nat}(e0:opn k cl es [day]=0)(hpm:S.Perm ps)(hpt:LS.Pt (LS.zero (l8 es day) 8) (LS.msk (LS.opn (l8 es day)) 8) ps)(hm:LS.Most (LS.zero (l8 es day) 8) (LS.msk (LS.opn (l8 es day)) 8) S.length):
 cpy k cl es day (zDk (l8 es day) k S)=(((zDk (l8 es day) k S).length:Int),0)/\(zDk (l8 es day) k S).length+S.length=LS.opens (l8 es day) 8:=by
 obtain⟨T,hd⟩:=zEz e0;obtain⟨Z,J,U,C,W,V⟩:=zDw T;have I:k<=8:=by omega
 have G:=GS.of hpm hpt;have j:=zIT (day:=day) C;have O:∀g∈S.map (fun p=>acc p k),g≠[]:=fun g A=>by
  obtain⟨p,n,rfl⟩:=bz.1 A;exact Dn.1 (G.ne j n)
 have q:(S.map fun p=>acc p k).flatten.Perm (zDc (zCd 8 es day) 8):=zFZ G.zE8 (zF0 _) fun x=>by rw[G.zIj j,zFh]
 have B:(zDk (l8 es day) k S).length+S.length=LS.opens (l8 es day) 8:=by
  have r:=zGR (l8 es day) (S.map fun p=>acc p k) O;rw[ek,q.length_eq]at r;unfold zDk;rw[ek,r];exact zHP es day
 have Y:=zFi (zCd 8 es day) 8;have N:=zHP es day;have hall:∀p∈zDk (l8 es day) k S,okP k p/\p.f≠p.t:=fun x K=>by
  unfold zDk zIZ at K;obtain⟨y,E,rfl⟩:=bz.1 K;obtain⟨g,A,E⟩:=II.1 E;obtain⟨p,n,rfl⟩:=bz.1 A;rw[zJx]at E;obtain⟨t,X,rfl⟩:=bz.1 E;rw[aX]at X;refine zPV (by omega) (zFn p k) (fun i D=>(zDg.1 D).1) ?_ (zHp I C J);exact zPW I hpt (by rw[<-hpm.length_eq];exact hm) (hpm.mem_iff.1 n) (G.low j n) (by omega)
 refine⟨zJ5 e0 (by omega) (fun p n=>(hall p n).1) (fun p n=>(hall p n).2) fun i D=> ?_,B⟩;have r:=zFy (day:=day) (l8 es day) (fun p n=>(hall p n).1) i;rw[zMd,zGS (l8 es day) (S.map fun p=>acc p k) (l8 es day) G.zE8 (fun _ _ _ _=>rfl) (fun g A=>by
  obtain⟨p,n,rfl⟩:=bz.1 A;exact(zJV I (G.low j n)).1 (G.zer p n).1) i]at r
 unfold aft;rw[zD0,<-zIR D,<-r];by_cases H:i∈(S.map fun p=>acc p k).flatten
 .rw[if_pos H]
 .rw[if_neg H];refine iL fun M=>H (q.mem_iff.2 (zDo.2 ⟨D,M⟩))
end
end Go.Proofs.YtejmkibjpaoahaaGreatDoor
namespace Go.Proofs.YtejmkibjpaoahaaGreatDoor
open Go Go.Proofs Go.Eng Go.Run Tab Go.Sort
section
variable {F:Eng.Heap->Prop}{xs:List Int}
set_option maxHeartbeats 1000000
def zCk:=(aD (aD (aD @zEm @zD2) (aD @by3 @zE3)) (aD (aD @zDX @zGF) (aD @sz3 @Tryz.underlying29)))
theorem zEb {w:World}{g:Nat}{tl:List Value}(hb:w.heap[g]? =some (.cells (Eng.ints xs++tl).toArray 3 (0,0))):Holds (tq .i64) w g 0 xs.toArray:=by
 intro j f;have f:j<xs.length:=by simpa using f
 refine⟨?_,?_⟩
 .simp only[World.cell?,hb,kY];rw[sK,eP (by rw[Eng.aR];exact f),Eng.Cn _ _ f];simp[lc,f]
 .simp[World.frozen?,hb]
theorem zFA {w:World}{g:Nat}{ys:List Int}{tl:List Value}(hb:w.heap[g]? =some (.cells (Eng.ints xs++tl).toArray 3 (0,0)))(hl:ys.length=xs.length):
 (putRow (tq .i64) w g 0 ys.toArray).heap[g]? =some (.cells (Eng.ints ys++tl).toArray 3 (0,0))/\Upd w.heap (putRow (tq .i64) w g 0 ys.toArray).heap g:=by
 have n:=bA hb;refine⟨?_,?_,?_⟩
 .simp only[putRow,mapBlock,pV,if_true,hb,Option.map_some,onCells];congr 2;refine Array.ext_getElem? fun k=> ?_
  simp only[putCells,Array.getElem?_mapIdx,sK,zw,true_and,kY,Nat.sub_zero,kX];by_cases f:k<ys.length
  .rw[eP (by rw[Eng.aR];omega),eP (by rw[Eng.aR];omega),Eng.Cn _ _ (by omega),Eng.Cn _ _ f];simp[f,lc]
  .rw[lN (by rw[Eng.aR];omega),lN (by rw[Eng.aR];omega),Eng.aR,Eng.aR,hl];cases tl[k-xs.length]? with
   |none=>rfl
   |some v=>simp[f];omega
 .simp[putRow,mapBlock]
 .intro b j;simp only[putRow,mapBlock,pV];rw[if_neg (fun e=>j e.symm)]
theorem zEC {P:Program}{f:FuncId}{args:Array Value}{K:Value->Eng.Heap->Prop}{h:Eng.Heap}(hb:qA P f=true)(H:∀w:World,w.heap=h->Calls P f args w fun e w'=>∃v,e= .returned v/\K v w'.heap/\w'.os=w.os/\w'.tape=w.tape/\w'.output=w.output):ak P f args h K:=by
 unfold ak gP;refine⟨hb,fun w r=> ?_⟩;refine(H w r).mono fun e w' ⟨v,p,q,g,j,n⟩=>⟨v,p,q,g,j,n⟩
def srt (l:List Int):Prop:=l.Pairwise (·<=·)
theorem zHN (xs:List Int):(xs.mergeSort fun x y=>decide (x<=y)).Perm xs/\srt (xs.mergeSort fun x y=>decide (x<=y)):=by
 refine⟨List.mergeSort_perm _ _,?_⟩;have:=List.pairwise_mergeSort (le:=fun x y:Int=>decide (x<=y)) (fun a b c f g=>by simp at *;omega) (fun a b=>by simp;omega) xs;exact this.imp fun h=>by simpa using h
theorem zMh (a:Option Addr)(c:Nat)(h:Eng.Heap):ak aS 98 #[.slice a 0 c] h (fun v h'=>v= .tuple #[]/\h'=h):=by
 refine zEC (by kernel_rfl) fun w f=> ?_
 subst f;refine(Any.slices_Sort_int_none Tryz.zG6 a c w).mono ?_;rintro e g ⟨rfl,rfl⟩;exact⟨_,rfl,⟨rfl,rfl⟩,rfl,rfl,rfl⟩
def yis (xs:List Int):List (List Value):=xs.map fun x=>[.int .i64 x]
theorem zLU (lo bx n c:Nat)(a:Option Addr)(xs:List Int)(h:Eng.Heap)(hn:n=xs.length)(hl:n<=1000000)(J:Nat->Eng.Heap->Prop)(E:Eng.Heap->Prop)
 (hx:∀i h',J i h'->h'[bx]? =some (.cells #[.slice a n c] 29)/\eu h' a n xs) (h0:J 0 h)
 (step:∀i h' vs,(yis xs)[i]? =some vs->J i h'->Aw aS (.func (.yield lo) #[] #[]) vs h' (fun v h''=>(v= .bool true/\J (i+1) h'')\/(v= .bool false/\E h''))):
 ak aS 99 (#[]++ #[.func (.yield lo) #[] #[]]++ #[.pointer (some ⟨bx,0,none⟩)]) h (fun v h'=>J (yis xs).length h'\/E h'):=by
 simp only[Array.append_empty,Array.empty_append,List.append_toArray,dC,bS]
 (refine Rm Tryz.func99 rfl zOD ?_;simp only[Tryz.ntmps99,Tryz.results99,coreS,U1,splice,aC,af,seval,zCk])
 simp only[(hx 0 h h0).1,coreS,aC,af,seval,zCk];refine zAi [4,7,8,9,10,11,12,13,14,15] (fun g h'=>∃i:Nat,i<=n/\g 7= .int .i64 i/\J i h') (fun g _=>match g 7 with| .int _ m=>n-m.toNat|_=>0) ?_ ?_
 .exact⟨0,by omega,rfl,h0⟩
 .rintro g h' ⟨i,I,B,j⟩;have r:=(hx i h' j).2;simp only[B,coreS,aC,af,seval,zCk];refine⟨fun D=> ?_,fun C=> ?_⟩
  .have f:i<xs.length:=by omega
   simp only[r.cell f,coreS,aC,af,seval,Uo,YA,XA,Xg,YV,Zi,zCk];refine⟨⟨by omega,by omega⟩,r.isSome (by omega),?_⟩;have q:=step i h' [.int .i64 (xs.getD i 0)] (by simp[yis,lc,aF f]) j;refine q.run1 rfl rfl ?_;rintro v H (⟨rfl,p⟩|⟨rfl,A⟩)
   .simp only[coreS,aC,af,seval,Uo,YA,XA,Xg,YV,Zi,zCk];refine⟨by rw[zBS];omega,Zr (by kernel_rfl) ⟨i+1,by omega,rfl,p⟩ ?_⟩;show n-((i:Int)+1).toNat<n-(i:Int).toNat;omega
   .simp only[coreS,aC,af,seval,Uo,YA,XA,Xg,YV,Zi,zCk];exact .inr A
  .have:i=n:=by omega
   subst this;left;have e:(yis xs).length=xs.length:=by simp[yis]
   rw[e,<-hn];exact j
theorem zHW {bx n c:Nat}{a:Option Addr}(hn:n=xs.length)(hl:n<=1000000):
 zA4 aS (.func (.func 99) #[] #[.pointer (some ⟨bx,0,none⟩)]) (fun h'=>h'[bx]? =some (.cells #[.slice a n c] 29)/\eu h' a n xs) (yis xs):=
 ⟨99,_,_,rfl,fun q g J E p j f=>zLU q bx n c a xs g hn hl J E p j f⟩
end
end Go.Proofs.YtejmkibjpaoahaaGreatDoor
namespace Go.Proofs.YtejmkibjpaoahaaGreatDoor
open Go Go.Proofs Go.Eng Go.Run Tab
section
variable {gs:List (List Int)}
set_option maxHeartbeats 1000000
structure Lss (h:Eng.Heap)(T:List Hd)(gs:List (List Int)):Prop where
 len:T.length=gs.length
 each:∀i,i<gs.length->eu h (T.getD i (none,0,0)).1 (T.getD i (none,0,0)).2.1 (gs.getD i [])
theorem Lss.ext {h h':Eng.Heap}{T:List Hd}(L:Lss h T gs)(x:Ext h h'):Lss h' T gs:=⟨L.len,fun i f=>(L.each i f).ext x⟩
theorem zHC {h:Eng.Heap}{b:Option Addr}{T:List Hd}(R:Row h b (zDT T)){j:Nat}(hj:j<T.length):jL h (lg b j)=some (.slice (T.getD j (none,0,0)).1 (T.getD j (none,0,0)).2.1 (T.getD j (none,0,0)).2.2):=by
 rw[zED R hj,aN,aF hj];rfl
end
end Go.Proofs.YtejmkibjpaoahaaGreatDoor
namespace Go.Proofs.YtejmkibjpaoahaaGreatDoor
open Go Go.Proofs Go.Eng Go.Run Tab
set_option maxHeartbeats 4000000
def zCV:=(aD (aD (aD (aD (aD @zFp @zIC) (aD @zFq @zEm)) (aD (aD @zD2 @zEn) (aD @zI7 @zI9))) (aD (aD (aD @by3 @zLs) (aD @zLt @zLu)) (aD (aD @zGA @zHD) (aD @zFP @zE3)))) (aD (aD (aD (aD @zDX @zEw) (aD @zPK @zHs)) (aD (aD @zJN @sz2) (aD @zGF @sz3))) (aD (aD (aD @zHV @zFM) (aD @zGd @zDf)) (aD (aD @Tryz.underlying29 @Tryz.underlying51) (aD @Tryz.underlying71 @Tryz.underlying103)))))
theorem zNy {h:Eng.Heap}{er:Env}{ty:TypeId}{m0:Nat}{x y:Operand}{a b:Option Addr}{len cap m c:Nat}{ps qs:List Pm}{K:Value->Eng.Heap->Prop}(hx:ev er x= .slice a len cap)(hy:ev er y= .slice b m c)(O:iV m0 h 107 3 a len cap (zDj ps))(h0h:m0<=h.size)(I:Row h b (zDj qs))(hm:m=qs.length)(hb:len+m<=1000)
 (H:∀a' cap' h',iV m0 h' 107 3 a' (len+m) cap' (zDj (ps++qs))->App h h' a a'->K (.slice a' (len+m) cap') h'):aI aS (.call ⟨.builtin .append,#[x,y],#[51,51]⟩) ty er h K:=
 WZ Ic Ic zHD zJN zGd (by rfl) hx hy O h0h I (by rw[zD8];omega) (fun u f=>by
  simp only[zDj,II,pmV]at f;obtain⟨e,_,f⟩:=f;simp at f;rcases f with rfl|rfl|rfl<;>rfl) (by omega) (by rw[zI7];omega) (fun a' cap' h' g A=>H a' cap' h' (by rw[zJF];exact g) A)
theorem zLF {l:Nat->Int}{k:Nat}{S:List Nat}{i:Nat}(hi:i<S.length):zDk l k (S.take (i+1))=zDk l k (S.take i)++(chL l (acc (S.getD i 0) k)).map pmP:=by
 unfold zDk zIZ;rw[gY,aF hi,mI,CW,mI,aN,aF hi];simp
theorem zKt {l:Nat->Int}{u:List Nat}{j:Nat}(hj:j<u.length):LS.zCo l (u.take (j+1))=LS.zCo l (u.take j)+l (u.getD j 0):=by
 rw[gY,aF hj,LS.zDr,aN,aF hj];simp[LS.zCo]
def zPa (k:Int)(cl:Int)(es:List En)(day:Int)(v:Value)(h':Eng.Heap):Prop:=
 (opn k cl es [day]=0/\∃aP cP S ps,v= .tuple #[.slice aP (zDk (l8 es day) k.toNat S).length cP,.int .i64 0]/\Row h' aP (zDj (zDk (l8 es day) k.toNat S))/\S.Perm ps/\LS.Pt (LS.zero (l8 es day) 8) (LS.msk (LS.opn (l8 es day)) 8) ps/\LS.Most (LS.zero (l8 es day) 8) (LS.msk (LS.opn (l8 es day)) 8) S.length)\/
 (opn k cl es [day]≠0/\v= .tuple #[.slice none 0 0,.int .i64 (opn k cl es [day])])
theorem zPS (ac cl:Int)(a:Option Addr)(n c:Nat)(es:List En)(day:Int)(h:Eng.Heap)(hr:Row h a (zDA es))(hn:n=es.length)(hl:n<=1000000):
 ak aS 16 #[.agg #[.int .i64 ac,.int .i64 cl,.slice a n c],.int .i64 day] h (fun v h'=>zPa ac cl es day v h'/\Ext h h'):=by
 (refine Rm Tryz.func16 rfl zPj ?_;simp only[Tryz.ntmps16,Tryz.results16,coreS,U1,splice,aC,af,seval,zCV])
 have q0:=jD (h:=h) (o:= .cells #[.int .i64 ac,.int .i64 cl,.slice a n c] 35);refine ak.mono (zGD ac cl a n c es _ 1 1 [day] _ ((hr.push _).push _) hn hl (zDD pn1) (by omega)) ?_;rintro v h1 ⟨x1,H⟩;have y1:=x1.zBe.zBe;rcases H with⟨e0,g,rfl,hg,hsz⟩|⟨e0,rfl⟩
 case inr=>
  have hd0:=decide_eq_false e0;simp only[hd0,bJ,coreS,aC,af,seval,zCV];exact⟨.inr ⟨e0,rfl⟩,y1⟩
 obtain⟨hc,hd⟩:=zEz e0;obtain⟨ha,hl2,hcl,hok,hso,hft⟩:=zDw hc;obtain⟨k,rfl⟩:∃k:Nat,ac=k:=⟨ac.toNat,by omega⟩;simp only[coreS,aC,af,seval,zCV];refine ak.mono (zEN g k cl a n c es day h1 hg (hr.ext y1) hn (by omega) hok ha.2 hft) ?_;rintro v h4 ⟨rfl,x4⟩;have y4:=y1.trans x4;obtain⟨xs,hxs⟩:∃xs,xs=zCd 8 es day:=⟨_,rfl⟩;have hxl:xs.length=8:=by rw[hxs,zCS]
 rw[<-hxs];obtain⟨b0,b1,b2,b3,b4,b5,b6,b7,h8⟩:∃b0 b1 b2 b3 b4 b5 b6 b7:Int,xs=[b0,b1,b2,b3,b4,b5,b6,b7]:=by
  match xs,hxl with
  |[b0,b1,b2,b3,b4,b5,b6,b7],_=>exact⟨b0,b1,b2,b3,b4,b5,b6,b7,rfl⟩
 have N:(ints xs).toArray= #[.int .i64 b0,.int .i64 b1,.int .i64 b2,.int .i64 b3,.int .i64 b4,.int .i64 b5,.int .i64 b6,.int .i64 b7]:=by rw[h8];rfl
 rw[N];simp only[coreS,U1,splice,aC,af,seval,zCV];rw[<-N];have q5:=jD (h:=h4) (o:= .cells (ints xs).toArray 103);have xq:Ext h4 (h4.push (.cells (ints xs).toArray 103)):=(Ext.refl h4).push _;refine ak.mono (zHB g k cl a n c es day _ (xq.get (x4.get hg)) (hr.ext (y4.trans xq)) hn (by omega) hok (by omega) hft) ?_;rintro v h5 ⟨⟨aG,K,cG,G,rfl,hGl,OG,hB,hS,⟨ps,I,hpt⟩,hmost⟩,x5⟩;have y5:=(y4.trans xq).trans x5;have q6:=x5.get q5;have hk8:k<=8:=by omega
 obtain⟨S,hSe⟩:∃S,S=G.map (·.2):=⟨_,rfl⟩;have hSl:S.length=K:=by rw[hSe,ek];exact hGl
 rw[<-hSe]at I;have W:LS.Pt (LS.zero (l8 es day) 8) (LS.msk (LS.opn (l8 es day)) 8) ps:=hpt;have C:LS.Most (LS.zero (l8 es day) 8) (LS.msk (LS.opn (l8 es day)) 8) S.length:=by rw[hSl];exact hmost
 have GG:=GS.of I W;have hlow:=zIT (day:=day) hok;have hlenS:=(zHm e0 I W C).2;have hOe:=zHP es day;have hO:=zFi (zCd 8 es day) 8;have V:∀i,(zDk (l8 es day) k (S.take i)).length<=8:=fun i=>by
  have h1:zDk (l8 es day) k S=zDk (l8 es day) k (S.take i)++zDk (l8 es day) k (S.drop i):=by
   unfold zDk zIZ;rw[<-mI,<-CW,<-mI,List.take_append_drop]
  have h2:=congrArg List.length h1;rw[bQ]at h2;omega
 have hnG:K<=8:=by omega
 simp only[coreS,aC,af,seval,zCV];refine zAi [9,11,12,13,14,15,33,34,35,36,37,38,39,40,41,42,43,44,45,46,47,48,49,50,51,52,53,54,55,56,57,58,59,60,61,62,63,64,65,66,67,68,69,70,71,72,73,74,75] (fun e h'=>Ext h5 h'/\∃i:Nat,i<=K/\e 33= .int .i64 i/\∃Z cP,e 9= .slice Z (zDk (l8 es day) k (S.take i)).length cP/\iV h5.size h' 107 3 Z (zDk (l8 es day) k (S.take i)).length cP (zDj (zDk (l8 es day) k (S.take i)))) (fun e _=>match e 33 with| .int _ q=>K-q.toNat|_=>0) ⟨Ext.refl _,0,by omega,rfl,none,0,rfl,iV.nil _ _ _ _⟩ ?_;rintro e6 h6 ⟨x6,i,hi,he6,Z,cP,heP,OP⟩;have y6:=y5.trans x6;by_cases hin:i<K
 case neg=>
  obtain rfl:K=i:=by omega
  have htk:S.take K=S:=bI (by omega);rw[htk]at heP OP;have hres:zPa k cl es day (.tuple #[.slice Z (zDk (l8 es day) k S).length cP,.int .i64 0]) h6:= .inl ⟨e0,Z,cP,S,ps,by rw[aW],by rw[aW];exact OP.row,I,W,C⟩;simp only[he6,heP,show¬((K:Int)<(K:Int)) by omega,decide_false,coreS,aC,af,seval,zCV];exact⟨hres,y6⟩
 have hlt:(i:Int)<(K:Int):=by omega
 have meas:K-((i:Int)+1).toNat<K-(i:Int).toNat:=by omega
 have hiG:i<(G.map (·.1)).length:=by rw[ek];omega
 have B:=zHC (OG.row.ext x6) (j:=i) hiG;have sG:=(OG.row.ext x6).isSome (by rw[zDC];omega);obtain⟨M,hgi⟩:∃M,M=G[i]'(by omega):=⟨_,rfl⟩;have hgm:M∈G:=by rw[hgi];exact cZ _
 have eT:(G.map (·.1)).getD i (none,0,0)=M.1:=by rw[aN,aF hiG,zB,<-hgi];rfl
 have eS:S.getD i 0=M.2:=by
  rw[hSe,aN,aF (by rw[ek];omega),zB,<-hgi];rfl
 rw[eT]at B;have hpS:M.2∈S:=by rw[hSe];exact bz.2 ⟨M,hgm,rfl⟩
 obtain⟨p,hp⟩:∃p,p=M.2:=⟨_,rfl⟩;obtain⟨t,ht⟩:∃t,t=M.1:=⟨_,rfl⟩;have hBg:=(hB.ext x6) M hgm;rw[<-hp,<-ht]at hBg;rw[<-ht]at B;rw[<-hp]at eS hpS;obtain⟨u,hu⟩:∃u,u=acc p k:=⟨_,rfl⟩;rw[<-hu]at hBg;obtain⟨hB1,OI⟩:=hBg;have hu0:0<u.length:=by rw[hu];exact GG.ne hlow hpS
 have hu8:u.length<=8:=by
  have:=zIA p k;rw[<-hu]at this;omega
 have hmem8:∀x∈u,x<8:=fun x hx=>by
  rw[hu]at hx;have:=(zDg.1 hx).1;omega
 have T:=OI.cap;have hnx:=zLF (l:=l8 es day) (k:=k) (S:=S) (i:=i) (by omega);rw[eS,<-hu]at hnx;have hchl:=zGp (l8 es day) u (Dn.1 hu0);have hsl:=XU (lo:=1) (hi:=t.2.1) (c:=t.2.2) OI.ints (by omega) (bi _) T;have e1:((t.2.1:Int)-1).toNat=t.2.1-1:=by omega
 have e2:((t.2.2:Int)-1).toNat=t.2.2-1:=by omega
 obtain⟨sl,E⟩:∃sl,sl=(if(t.2.2:Int)=((1:Nat):Int)then t.1 else lg t.1 1):=⟨_,rfl⟩;have hsle2:(if(t.2.2:Int)=1 then t.1 else lg t.1 1)=sl:=by rw[E];rfl
 rw[<-E]at hsl;have hdl:((nz u).drop 1).take (t.2.1-1)=(nz u).drop 1:=bI (by rw[zD,zDS];omega);rw[hdl]at hsl;have st:t.1.isSome=true:=OI.ints.isSome (by rw[zDS];exact hu0);have hpl:=V i;have hpl2:=V (i+1);have hnl:=congrArg List.length hnx;rw[bQ,ek]at hnl;simp only[he6,heP,hlt,B,e1,e2,hsle2,decide_true,aW,coreS,aC,af,Nat.reduceAdd,Nat.reduceSub,Nat.reduceMul,Nat.reduceLeDiff,Int.reduceEq,Nat.reduceEqDiff,zCV];refine⟨by omega,sG,by omega,by omega,by omega,by omega,?_⟩;refine zAi [9,12,13,14,15,40,41,42,43,44,45,46,47,48,49,50,51,52,53,54,55,56,57,58,59,60,61,62,63,64,65,66,67,68,69,70,71,72,73,74] (fun e h'=>Ext h5 h'/\∃j:Nat,j<=u.length-1/\e 40= .int .i64 j/\e 12= .int .i64 (LS.zCo (l8 es day) (u.take j))/\∃Z cP,e 9= .slice Z ((zDk (l8 es day) k (S.take i)).length+j) cP/\iV h5.size h' 107 3 Z ((zDk (l8 es day) k (S.take i)).length+j) cP (zDj (zDk (l8 es day) k (S.take i)++((bn j).map (prL (l8 es day) u)).map pmP))) (fun e _=>match e 40 with| .int _ q=>(u.length-1)-q.toNat|_=>0) ⟨x6,0,by omega,rfl,rfl,Z,cP,by rw[Nat.add_zero];rfl,by rw[Nat.add_zero,List.range_zero,List.map_nil,List.map_nil,bK];exact OP⟩ ?_;rintro e7 h7 ⟨x7,j,hj,he7,he12,aQ,cQ,U,OQ⟩;by_cases hju:j<u.length-1
 case neg=>
  obtain rfl:j=u.length-1:=by omega
  have hl2:¬((u.length-1:Nat):Int)<((t.2.1-1:Nat):Int):=by omega
  rw[<-zJx,<-hnx]at OQ;have ell:(zDk (l8 es day) k (S.take i)).length+(u.length-1)=(zDk (l8 es day) k (S.take (i+1))).length:=by omega
  rw[ell]at OQ U;simp only[he6,he7,U,hl2,decide_false,coreS,aC,af,seval,zCV];exact⟨by rw[zBS];omega,Zr (by kernel_rfl) ⟨x7,i+1,by omega,rfl,aQ,cQ,rfl,OQ⟩ meas⟩
 have hj2:(j:Int)<((t.2.1-1:Nat):Int):=by omega
 have X:(u.length-1)-((j:Int)+1).toNat<(u.length-1)-(j:Int).toNat:=by omega
 have OI7:=(hB.ext x7) M hgm;rw[<-hp,<-ht,<-hu]at OI7;have I7:=OI7.2.ints;have x67:Row h7 sl (ints ((nz u).drop 1)):=by
  have J:=XU (lo:=1) (hi:=t.2.1) (c:=t.2.2) I7 (by omega) (bi _) T;rw[<-E,hdl]at J;exact J.row
 have J:=XU (lo:=1) (hi:=t.2.1) (c:=t.2.2) I7 (by omega) (bi _) T;rw[<-E,hdl]at J;have hd7:((nz u).drop 1).length=u.length-1:=by rw[zD,zDS]
 have cb:=J.cell (j:=j) (by omega);have ss:=J.isSome (by omega);have eb:((nz u).drop 1).getD j 0=((u.getD (j+1) 0:Nat):Int):=by
  rw[aN,List.getElem?_drop,<-aN,Nat.add_comm 1 j,zEW]
 rw[eb]at cb;have ca:=I7.cell (j:=j) (by rw[zDS];omega);rw[zEW]at ca;have q7:=x7.get q6;have hua:u.getD j 0<8:=hmem8 _ (by rw[aN,aF (by omega)];exact cZ _);have ce:(ints xs)[u.getD j 0]? =some (.int .i64 (xs.getD (u.getD j 0) 0)):=Cn _ _ (by omega);have hxg:xs.getD (u.getD j 0) 0=l8 es day (u.getD j 0):=by rw[hxs];rfl
 have hln:=zKt (l:=l8 es day) (u:=u) (j:=j) (by omega);have hb1:=zHp (day:=day) (p:=p) (t:=j+1) hk8 hok hl2;rw[<-hu]at hb1;obtain⟨left,r⟩:∃left,left=LS.zCo (l8 es day) (u.take (j+1)):=⟨_,rfl⟩;rw[<-r]at hln hb1;rw[hxg]at ce;have hprn:((bn (j+1)).map (prL (l8 es day) u)).map pmP=((bn j).map (prL (l8 es day) u)).map pmP++[pmP (prL (l8 es day) u j)]:=by
  rw[rA,mI,mI];rfl
 simp only[he7,he12,U,hj2,ca,cb,q7,ce,<-hln,decide_true,aW,splice,eD,gL,bS,dC,bK,aZ,bL,kY,Nat.reduceAdd,Nat.reduceLeDiff,if_true,coreS,aC,af,seval,zCV];refine⟨by omega,ss,⟨by omega,by omega⟩,st,⟨by omega,by omega⟩,by rw[zBS];omega,⟨by omega,by omega⟩,st,?_⟩;refine Oy jD (by simp) fun h8 g8 u8=> ?_
 simp only[splice,eD,gL,bS,bK,aZ,bL]at g8;have x8:Ext h7 h8:=u8.ext ((Ext.refl h7).push _) (bi _);have fin:∀(N:Eng.Heap) (pm:Pm),Ext h7 N->pm=pmP (prL (l8 es day) u j)->∀(Y:Option Addr) (f:Nat) (A:Eng.Heap),iV h5.size A 107 3 Y ((zDk (l8 es day) k (S.take i)).length+j+1) f (zDj (zDk (l8 es day) k (S.take i)++((bn j).map (prL (l8 es day) u)).map pmP++[pm]))->iV h5.size A 107 3 Y ((zDk (l8 es day) k (S.take i)).length+(j+1)) f (zDj (zDk (l8 es day) k (S.take i)++((bn (j+1)).map (prL (l8 es day) u)).map pmP)):=fun N pm _ I Y f A O=>by
  rw[hprn,<-zk,<-I];exact O
 by_cases D:left<0
 .have ca8:jL h8 (lg t.1 j)=some (.int .i64 (u.getD j 0:Nat)):=by
   have I8:=(OI7.2.ext x8).ints;have:=I8.cell (j:=j) (by rw[zDS];omega);rw[zEW]at this;exact this
  have ez:(0:Int)-left= -left:=by omega
  simp only[D,ca8,g8,ez,decide_true,aW,splice,eD,gL,bS,dC,bK,aZ,bL,kY,Nat.reduceAdd,Nat.reduceLeDiff,if_true,coreS,aC,af,seval,zCV];refine⟨by omega,st,by rw[zBS];omega,?_⟩;refine Oy g8 (by simp) fun N g9 u9=> ?_
  simp only[splice,eD,gL,bS,bK,aZ,bL]at g9;have x9:Ext h7 N:=u9.ext x8 (bi _);have xb:Ext N (N.push (.cells #[.int .i64 (u.getD (j+1) 0:Nat),.int .i64 (u.getD j 0:Nat),.int .i64 (-left)] 107)):=(Ext.refl N).push _;simp only[U,g9,splice,eD,gL,bS,dC,bK,aZ,bL,kY,Nat.reduceAdd,Nat.reduceLeDiff,if_true,coreS,aC,af,Nat.reduceAdd,Nat.reduceSub,Nat.reduceMul,Nat.reduceLeDiff,Int.reduceEq,Nat.reduceEqDiff,zCV];refine⟨by decide,?_⟩;have z9:=(x7.trans x9).size;refine zNy (m0:=h5.size) (m:=1) (qs:=[⟨(u.getD (j+1) 0:Nat),(u.getD j 0:Nat),-left⟩]) rfl rfl ((OQ.ext x9).ext xb) (by rw[Rh];omega) (Row.block (c:=zDj [⟨(u.getD (j+1) 0:Nat),(u.getD j 0:Nat),-left⟩]) jD) rfl (by omega) fun Y f A O10 A10=> ?_
  have O11:=fin N _ x9 (by unfold prL LS.pay;rw[<-r,if_pos D];rfl) Y f A O10;simp only[he7,coreS,aC,af,seval,zCV];exact⟨by rw[zBS];omega,Zr (by kernel_rfl) ⟨A10.extV ((OQ.ext x9).ext xb) ((x7.trans x9).trans xb) (bi _),j+1,by omega,rfl,by rw[<-r];rfl,Y,f,by rw[<-FN];rfl,O11⟩ X⟩
 .have xb:Ext h8 (h8.push (.cells #[.int .i64 (u.getD j 0:Nat),.int .i64 (u.getD (j+1) 0:Nat),.int .i64 left] 107)):=(Ext.refl h8).push _;simp only[D,U,g8,decide_false,splice,eD,gL,bS,dC,bK,aZ,bL,kY,Nat.reduceAdd,Nat.reduceLeDiff,if_true,coreS,aC,af,Nat.reduceAdd,Nat.reduceSub,Nat.reduceMul,Nat.reduceLeDiff,Int.reduceEq,Nat.reduceEqDiff,zCV];refine⟨by decide,?_⟩;have z8:=(x7.trans x8).size;refine zNy (m0:=h5.size) (m:=1) (qs:=[⟨(u.getD j 0:Nat),(u.getD (j+1) 0:Nat),left⟩]) rfl rfl ((OQ.ext x8).ext xb) (by rw[Rh];omega) (Row.block (c:=zDj [⟨(u.getD j 0:Nat),(u.getD (j+1) 0:Nat),left⟩]) jD) rfl (by omega) fun Y f A O10 A10=> ?_
  have O11:=fin h8 _ x8 (by unfold prL LS.pay;rw[<-r,if_neg D];rfl) Y f A O10;simp only[he7,coreS,aC,af,seval,zCV];exact⟨by rw[zBS];omega,Zr (by kernel_rfl) ⟨A10.extV ((OQ.ext x8).ext xb) ((x7.trans x8).trans xb) (bi _),j+1,by omega,rfl,by rw[<-r];rfl,Y,f,by rw[<-FN];rfl,O11⟩ X⟩
end Go.Proofs.YtejmkibjpaoahaaGreatDoor
