/- The engine: drawn regions by a tree of orders. No condition. -/
import Derived.Test.YtljjlhbbcjjmlaaGreatDoorEngI
set_option linter.unusedVariables false
set_option linter.unusedSimpArgs false
namespace Go.Eng
open Go
attribute [local semireducible] aI iP gP lm WP
inductive PT where
 |fin
 |quiet (i:Nat) (r:PT)
 |pure (i:Nat) (r:PT)
 |one (i:Nat) (r:PT)
 |keep (i:Nat) (r:PT)
 |fork (x y:Nat) (a b:PT)
 |yo (x y:Nat) (u v:Bool) (a b:PT)
 |lu (x y z:Nat) (u v w:Bool) (a b c:PT)
def PT.size:PT->Nat
 | .fin=>0
 | .quiet _ r| .pure _ r| .one _ r| .keep _ r=>r.size+1
 | .fork _ _ a _=>a.size+1
 | .yo _ _ _ _ a _=>a.size+1
 | .lu _ _ _ _ _ _ a _ _=>a.size+1
def PT.G:PT->Nat->Bool
 | .fin,_=>true
 | .quiet _ r,j| .pure _ r,j| .keep _ r,j=>r.G j
 | .one i r,j=> !(i==j)&&r.G j
 | .fork _ _ a b,j=>a.G j&&b.G j
 | .yo x y u v a b,j=>(u|| !(x==j))&&((v|| !(y==j))&&(a.G j&&b.G j))
 | .lu x y z u v w a b c,j=>(u|| !(x==j))&&((v|| !(y==j))&&((w|| !(z==j))&&(a.G j&&(b.G j&&c.G j))))
section tree
variable {P:Program}{l:Option Nat}{R:Heap->Heap->Prop}{G:Nat->Bool}
theorem VG {all:List Oper}{i:Nat}{o:Oper}{e:Env}{d:List Deferred}{w1:World}{Kx:Env->Heap->Prop}{Kf:Act->World->Prop}(hi:all[i]? =some o)
 (H:ax o.guard all e (fun e=>opW P o.op o.type e w1.heap (fun v h''=>(G i=true->R w1.heap h'')/\Kx (aU e o.dst v) h'')) (fun e=>(G i=true->R w1.heap w1.heap)/\Kx (aU e o.dst undef) w1.heap)) (fin:∀e' w',Rest w1 w'->Kx e' w'.heap->Kf ⟨e'.toArray,d⟩ w'):
 opD P all.toArray i (fun a' w'=>(G i=true->R w1.heap w'.heap)/\Rest w1 w'/\Kf a' w') ⟨e.toArray,d⟩ w1:=by
 have hi':all.toArray[i]? =some o:=by simpa using hi
 unfold opD;simp only[hi'];rcases dB H o rfl with⟨hw,hA⟩|⟨hw,hB⟩
 .simp only[hw,if_true];have h1:=aM hA;unfold aI at h1;refine⟨h1.1,?_⟩;have h2:=h1.2 w1 rfl;rw[dY,bW];have fin':∀v w',Rest w1 w'->((G i=true->R w1.heap w'.heap)/\Kx (aU e o.dst v) w'.heap)->(G i=true->R w1.heap w'.heap)/\Rest w1 w'/\Kf ((Act.mk e.toArray d).put o.dst v) w':=by
   intro v w' hr' hk;refine⟨hk.1,hr',?_⟩;rw[ay];exact fin _ _ hr' hk.2
  unfold dQ at h2;unfold fH;split at h2
  .exact⟨fin' _ _ h2.2 h2.1,h2.2⟩
  .exact⟨fin' _ _ h2.2 h2.1,h2.2⟩
  .exact⟨h2.1,Calls.mono h2.2 fun x w'' ⟨v,hx,hv,hr''⟩=>⟨v,hx,fin' v w'' (h2.1.trans hr'') hv,hr''⟩⟩
  .exact⟨h2.1,RoundIn.mono h2.2 fun x w'' ⟨v,hx,hv,hr''⟩=>⟨v,hx,fin' v w'' (h2.1.trans hr'') hv,hr''⟩⟩
  .exact h2.elim
 .simp only[hw];refine⟨hB.1,Rest.refl _,?_⟩;rw[ay];exact fin _ _ (Rest.refl _) hB.2
def stO (P:Program)(all:List Oper)(o:Option Oper)(e:Env)(h:Heap)(K:Env->Heap->Prop):Prop:=
 match o with
 |some o=>ax o.guard all e (fun e=>opW P o.op o.type e h (fun v h'=>K (aU e o.dst v) h')) (fun e=>K (aU e o.dst undef) h)
 |none=>False
def ah (P:Program)(R:Heap->Heap->Prop)(all:List Oper):PT->aj->Env->List Deferred->Heap->Prop
 | .fin,k,e,d,h=>∀h',R h h'->k .normal e d h'
 | .quiet i rest,k,e,d,h=>match all[i]? with
   |some o=>ax o.guard all e (fun e=>dK P R o.op o.type e h (fun v h'=>ah P R all rest k (aU e o.dst v) d h')) (fun e=>ah P R all rest k (aU e o.dst undef) d h)
   |none=>False
 | .pure i rest,k,e,d,h=>match all[i]? with
   |some o=>ax o.guard all e (fun e=>fK P o.op e h (fun v h'=>ah P R all rest k (aU e o.dst v) d h')) (fun e=>ah P R all rest k (aU e o.dst undef) d h)
   |none=>False
 | .one i rest,k,e,d,h=>∀h',R h h'->stO P all all[i]? e h' (fun e h''=>ah P R all rest k e d h'')
 | .keep i rest,k,e,d,h=>∀h',R h h'->stO P all all[i]? e h' (fun e h''=>R h' h''/\ah P R all rest k e d h'')
 | .fork x y a b,k,e,d,h=>∀h',R h h'->stO P all all[x]? e h' (fun e h''=>R h' h''/\ah P R all a k e d h'')/\stO P all all[y]? e h' (fun e h''=>R h' h''/\ah P R all b k e d h'')
 | .yo x y u v a b,k,e,d,h=>∀h',R h h'->stO P all all[x]? e h' (fun e h''=>(u=true->R h' h'')/\ah P R all a k e d h'')/\stO P all all[y]? e h' (fun e h''=>(v=true->R h' h'')/\ah P R all b k e d h'')
 | .lu x y z u v t a b c,k,e,d,h=>∀h',R h h'->stO P all all[x]? e h' (fun e h''=>(u=true->R h' h'')/\ah P R all a k e d h'')/\stO P all all[y]? e h' (fun e h''=>(v=true->R h' h'')/\ah P R all b k e d h'')/\stO P all all[z]? e h' (fun e h''=>(t=true->R h' h'')/\ah P R all c k e d h'')
def okT (G:Nat->Bool)(all:List Oper):PT->Array Bool->Bool
 | .fin,listed=>(Region.ready .any all.toArray listed).isEmpty
 | .quiet i rest,listed=>(Region.ready .any all.toArray listed).contains i&&vQ all listed i (blk all listed i all.length 0 [])&&
  ((List.range all.length).all fun j=>j==i||listed.getD j true||(blk all listed i all.length 0 []).contains j||(G j&&(match all[i]?,all[j]? with|some oi,some oj=>oi.apart all.toArray oj|_,_=>true)))&&
  okT G all rest (listed.setIfInBounds i true)
 | .pure i rest,listed=>(Region.ready .any all.toArray listed).contains i&&vQ all listed i (blk all listed i all.length 0 [])&&
  ((List.range all.length).all fun j=>j==i||listed.getD j true||(blk all listed i all.length 0 []).contains j||(match all[i]?,all[j]? with|some oi,some oj=>oi.apart all.toArray oj|_,_=>true))&&
  okT G all rest (listed.setIfInBounds i true)
 | .one i rest,listed=> !(G i)&&decide (Region.ready .any all.toArray listed=[i])&&okT G all rest (listed.setIfInBounds i true)
 | .keep i rest,listed=>decide (Region.ready .any all.toArray listed=[i])&&okT G all rest (listed.setIfInBounds i true)
 | .fork x y a b,listed=>decide (Region.ready .any all.toArray listed=[x,y])&&(decide (a.size=b.size)&&(okT G all a (listed.setIfInBounds x true)&&okT G all b (listed.setIfInBounds y true)))
 | .yo x y u v a b,listed=>(u|| !(G x))&&((v|| !(G y))&&(decide (Region.ready .any all.toArray listed=[x,y])&&(decide (a.size=b.size)&&(okT G all a (listed.setIfInBounds x true)&&okT G all b (listed.setIfInBounds y true)))))
 | .lu x y z u v t a b c,listed=>(u|| !(G x))&&((v|| !(G y))&&((t|| !(G z))&&(decide (Region.ready .any all.toArray listed=[x,y,z])&&(decide (a.size=b.size)&&(decide (a.size=c.size)&&(okT G all a (listed.setIfInBounds x true)&&(okT G all b (listed.setIfInBounds y true)&&okT G all c (listed.setIfInBounds z true))))))))
theorem dU {all:List Oper}{i:Nat}{e:Env}{d:List Deferred}{w1:World}{Kx:Env->Heap->Prop}{Kf:Act->World->Prop}(H:stO P all all[i]? e w1.heap (fun e h''=>(G i=true->R w1.heap h'')/\Kx e h''))(fin:∀e' w',Rest w1 w'->Kx e' w'.heap->Kf ⟨e'.toArray,d⟩ w'):
 opD P all.toArray i (fun a' w'=>(G i=true->R w1.heap w'.heap)/\Rest w1 w'/\Kf a' w') ⟨e.toArray,d⟩ w1:=by
 cases hi:all[i]? with
 |none=>rw[hi]at H;exact H.elim
 |some o=>rw[hi]at H;exact VG (Kx:=Kx) hi H fin
theorem JY {gd:Option (Nat×Bool)}{all:List Oper}{e:Env}{A A' B B':Env->Prop}(ha:∀e,A e->A' e)(hb:∀e,B e->B' e)(H:ax gd all e A B):ax gd all e A' B':=by
 cases gd with
 |none=>unfold ax at H ⊢;exact ha _ H
 |some p=>
  obtain⟨j,want⟩:=p;unfold ax at H ⊢;simp only at H ⊢;cases hj:fQ all j with
  |none=>simp only[hj]at H ⊢;exact hb _ H
  |some t=>
   simp only[hj]at H ⊢;unfold au at H ⊢;cases hv:e.getD t undef with
   |bool b=>
    simp only[hv]at H ⊢;refine⟨fun h1=> ?_,fun h1=> ?_⟩
    .have h2:=H.1 h1;by_cases hw:true=want
     .rw[if_pos hw]at h2 ⊢;exact ha _ h2
     .rw[if_neg hw]at h2 ⊢;exact hb _ h2
    .have h2:=H.2 h1;by_cases hw:false=want
     .rw[if_pos hw]at h2 ⊢;exact ha _ h2
     .rw[if_neg hw]at h2 ⊢;exact hb _ h2
   |_=>first|(simp only[hv]at H ⊢;done)|(simp only[hv]at H ⊢;exact hb _ H)
theorem fC {all:List Oper}{o:Option Oper}{e:Env}{h:Heap}{K K':Env->Heap->Prop}(H:stO P all o e h K)(hk:∀e h,K e h->K' e h):stO P all o e h K':=by
 cases o with
 |none=>exact H.elim
 |some o=>exact JY (fun e he=>BG (fun v h hv=>hk _ _ hv) he) (fun e he=>hk _ _ he) H
theorem bf (hS:Sta R){all:List Oper}{k:aj}{w0:World}(hsel:Region.noSelect all.toArray=true):∀(t:PT) (listed:Array Bool) (e:Env) (d:List Deferred) (w:World),Rest w0 w->
 okT G all t listed=true->ah P R all t k e d w.heap->
 lQ P all.toArray R G (fun a w'=>k .normal a.tmps.toList a.defers w'.heap/\Rest w0 w') t.size listed ⟨e.toArray,d⟩ w
 | .fin,listed,e,d,w,hr,hok,H=>fun w1 hr1 hR1=>by
   refine⟨by simpa[okT]using hok,?_,hr.trans hr1⟩;simpa using H _ hR1
 | .quiet i rest,listed,e,d,w,hr,hok,H=>by
   simp only[okT,Bool.and_eq_true]at hok;obtain⟨⟨⟨hready,hbk⟩,hG⟩,hok⟩:=hok;unfold ah at H;cases hi:all[i]? with
   |none=>simp[hi]at H
   |some o=>
    simp only[hi]at H;have hi':all.toArray[i]? =some o:=by simpa using hi
    obtain⟨Bk,hBke⟩:∃Bk,Bk=blk all listed i all.length 0 []:=⟨_,rfl⟩;rw[<-hBke]at hbk hG;have hb1:∀j∈Bk,listed.getD j true=false:=fun j hj=>by
     have:=List.all_eq_true.1 hbk j hj;simp only[Bool.and_eq_true,Bool.not_eq_true']at this;exact this.1.1
    have hb2:∀j∈Bk,j≠i/\∀oj,all.toArray[j]? =some oj->∃e∈oj.after,Region.binds .any e=true/\(e.on=i\/e.on∈Bk):=fun j hj=>by
     have:=List.all_eq_true.1 hbk j hj;simp only[Bool.and_eq_true,bne_iff_ne,ne_eq]at this;refine⟨this.1.2,fun oj hoj=> ?_⟩;have hj2:all[j]? =some oj:=by simpa using hoj
     have h2:=this.2;rw[hj2]at h2;obtain⟨e,he,hb⟩:=Array.any_eq_true'.1 h2;simp only[Bool.and_eq_true,Bool.or_eq_true,beq_iff_eq,List.contains_eq_mem,decide_eq_true_eq]at hb;exact⟨e,he,hb.1,hb.2⟩
    have hfr:∀j oj,all.toArray[j]? =some oj->j≠i->listed.getD j true=false->j∉Bk->o.apart all.toArray oj=true/\G j=true:=by
     intro j oj hj hne hun hno;have hlt:j<all.length:=by have:=(Array.getElem?_eq_some_iff.1 hj).1;simpa using this
     have:=List.all_eq_true.1 hG j (List.mem_range.2 hlt);have hj2:all[j]? =some oj:=by simpa using hj
     simp only[hi,hj2,Bool.or_eq_true,Bool.and_eq_true,beq_iff_eq,hne,false_or,hun,Bool.false_eq_true,List.contains_eq_mem,decide_eq_true_eq,hno]at this;exact⟨this.2,this.1⟩
    have hrdy:i∈Region.ready .any all.toArray listed:=by simpa using hready
    rcases dB H o rfl with⟨hw,hA⟩|⟨hw,hB⟩
    .have hq:=tV hS hA;unfold iP at hq;obtain⟨v,hv,hk⟩:=hq;refine ja hS hi' (Region.noSelect_spec hsel) Bk hb2 rest.size listed _ w hfr hb1 hrdy (v:=v) ?_ ?_
     .refine .inl ⟨hw,fun w' hr' hR'=> ?_⟩;have h1:=hv _ hR';refine⟨h1.1,?_⟩;have h2:=h1.2 w' rfl;rw[dY,bW];unfold dQ at h2;unfold fH;split at h2
      .exact h2
      .exact h2
      .exact h2
      .exact h2
      .exact h2.elim
     .rw[ay];exact bf hS hsel rest _ _ d w hr hok hk
    .refine ja hS hi' (Region.noSelect_spec hsel) Bk hb2 rest.size listed _ w hfr hb1 hrdy (v:=undef) (.inr ⟨hw,rfl⟩) ?_;rw[ay];exact bf hS hsel rest _ _ d w hr hok hB
 | .pure i rest,listed,e,d,w,hr,hok,H=>by
   simp only[okT,Bool.and_eq_true]at hok;obtain⟨⟨⟨hready,hbk⟩,hG⟩,hok⟩:=hok;unfold ah at H;cases hi:all[i]? with
   |none=>simp[hi]at H
   |some o=>
    simp only[hi]at H;have hi':all.toArray[i]? =some o:=by simpa using hi
    obtain⟨Bk,hBke⟩:∃Bk,Bk=blk all listed i all.length 0 []:=⟨_,rfl⟩;rw[<-hBke]at hbk hG;have hb1:∀j∈Bk,listed.getD j true=false:=fun j hj=>by
     have:=List.all_eq_true.1 hbk j hj;simp only[Bool.and_eq_true,Bool.not_eq_true']at this;exact this.1.1
    have hb2:∀j∈Bk,j≠i/\∀oj,all.toArray[j]? =some oj->∃e∈oj.after,Region.binds .any e=true/\(e.on=i\/e.on∈Bk):=fun j hj=>by
     have:=List.all_eq_true.1 hbk j hj;simp only[Bool.and_eq_true,bne_iff_ne,ne_eq]at this;refine⟨this.1.2,fun oj hoj=> ?_⟩;have hj2:all[j]? =some oj:=by simpa using hoj
     have h2:=this.2;rw[hj2]at h2;obtain⟨e,he,hb⟩:=Array.any_eq_true'.1 h2;simp only[Bool.and_eq_true,Bool.or_eq_true,beq_iff_eq,List.contains_eq_mem,decide_eq_true_eq]at hb;exact⟨e,he,hb.1,hb.2⟩
    have hfr:∀j oj,all.toArray[j]? =some oj->j≠i->listed.getD j true=false->j∉Bk->o.apart all.toArray oj=true:=by
     intro j oj hj hne hun hno;have hlt:j<all.length:=by have:=(Array.getElem?_eq_some_iff.1 hj).1;simpa using this
     have:=List.all_eq_true.1 hG j (List.mem_range.2 hlt);have hj2:all[j]? =some oj:=by simpa using hj
     simp only[hi,hj2,Bool.or_eq_true,Bool.and_eq_true,beq_iff_eq,hne,false_or,hun,Bool.false_eq_true,List.contains_eq_mem,decide_eq_true_eq,hno]at this;exact this
    have hrdy:i∈Region.ready .any all.toArray listed:=by simpa using hready
    rcases dB H o rfl with⟨hw,hA⟩|⟨hw,hB⟩
    .obtain⟨hd,v,hk,hv⟩:=oD (ty:=o.type) hA;refine ig hS hi' (Region.noSelect_spec hsel) Bk hb2 rest.size listed _ w hfr hb1 hrdy (v:=v) ?_ ?_
     .refine .inl ⟨hw,fun w' hr'=>⟨hd,?_⟩⟩;rw[dY,bW,hv w'];exact⟨⟨rfl,rfl⟩,Rest.refl _⟩
     .rw[ay];exact bf hS hsel rest _ _ d w hr hok hk
    .refine ig hS hi' (Region.noSelect_spec hsel) Bk hb2 rest.size listed _ w hfr hb1 hrdy (v:=undef) (.inr ⟨hw,rfl⟩) ?_;rw[ay];exact bf hS hsel rest _ _ d w hr hok hB
 | .one i rest,listed,e,d,w,hr,hok,H=>by
   intro w1 hr1 hR1;simp only[okT,Bool.and_eq_true,decide_eq_true_eq,Bool.not_eq_true']at hok;obtain⟨⟨hG,h1⟩,hok⟩:=hok;rw[h1];refine⟨fun h=>by simp at h,fun q hq=> ?_⟩;have hq:q=i:=by simpa using hq
   subst hq;refine dU (Kx:=fun e h''=>ah P R all rest k e d h'') (fC (H _ hR1) fun e h hk=>⟨fun hh=>(by rw[hG]at hh;cases hh),hk⟩) fun e2 w2 hr2 K2=> ?_
   exact bf hS hsel rest _ _ d w2 (hr.trans (hr1.trans hr2)) hok K2
 | .keep i rest,listed,e,d,w,hr,hok,H=>by
   intro w1 hr1 hR1;simp only[okT,Bool.and_eq_true,decide_eq_true_eq]at hok;obtain⟨h1,hok⟩:=hok;rw[h1];refine⟨fun h=>by simp at h,fun q hq=> ?_⟩;have hq:q=i:=by simpa using hq
   subst hq;refine dU (Kx:=fun e h''=>ah P R all rest k e d h'') (fC (H _ hR1) fun e h hk=>⟨fun _=>hk.1,hk.2⟩) fun e2 w2 hr2 K2=> ?_
   exact bf hS hsel rest _ _ d w2 (hr.trans (hr1.trans hr2)) hok K2
 | .fork x y a b,listed,e,d,w,hr,hok,H=>by
   intro w1 hr1 hR1;simp only[okT,Bool.and_eq_true,decide_eq_true_eq]at hok;obtain⟨h1,h2,o1,o2⟩:=hok;obtain⟨A,B⟩:=H _ hR1;rw[h1];refine⟨fun h=>by simp at h,fun q hq=> ?_⟩;have hq:q=x\/q=y:=by simpa using hq
   rcases hq with rfl|rfl
   .refine dU (Kx:=fun e h''=>ah P R all a k e d h'') (fC A fun e h hk=>⟨fun _=>hk.1,hk.2⟩) fun e2 w2 hr2 K2=> ?_
    exact bf hS hsel a _ _ d w2 (hr.trans (hr1.trans hr2)) o1 K2
   .refine dU (Kx:=fun e h''=>ah P R all b k e d h'') (fC B fun e h hk=>⟨fun _=>hk.1,hk.2⟩) fun e2 w2 hr2 K2=> ?_
    have:=bf (w0:=w0) hS hsel b _ _ d w2 (hr.trans (hr1.trans hr2)) o2 K2;rw[<-h2]at this;exact this
 | .yo x y u v a b,listed,e,d,w,hr,hok,H=>by
   intro w1 hr1 hR1;simp only[okT,Bool.and_eq_true,decide_eq_true_eq,Bool.or_eq_true,Bool.not_eq_true']at hok;obtain⟨gx,gy,h1,h2,o1,o2⟩:=hok;obtain⟨A,B⟩:=H _ hR1;rw[h1];refine⟨fun h=>by simp at h,fun q hq=> ?_⟩;have hq:q=x\/q=y:=by simpa using hq
   rcases hq with rfl|rfl
   .refine dU (Kx:=fun e h''=>ah P R all a k e d h'') (fC A fun e h hk=>⟨fun hh=>hk.1 (gx.resolve_right (by rw[hh];decide)),hk.2⟩) fun e2 w2 hr2 K2=> ?_
    exact bf hS hsel a _ _ d w2 (hr.trans (hr1.trans hr2)) o1 K2
   .refine dU (Kx:=fun e h''=>ah P R all b k e d h'') (fC B fun e h hk=>⟨fun hh=>hk.1 (gy.resolve_right (by rw[hh];decide)),hk.2⟩) fun e2 w2 hr2 K2=> ?_
    have:=bf (w0:=w0) hS hsel b _ _ d w2 (hr.trans (hr1.trans hr2)) o2 K2;rw[<-h2]at this;exact this
 | .lu x y z u v t a b c,listed,e,d,w,hr,hok,H=>by
   intro w1 hr1 hR1;simp only[okT,Bool.and_eq_true,decide_eq_true_eq,Bool.or_eq_true,Bool.not_eq_true']at hok;obtain⟨gx,gy,gz,h1,h2,h3,o1,o2,o3⟩:=hok;obtain⟨A,B,C⟩:=H _ hR1;rw[h1];refine⟨fun h=>by simp at h,fun q hq=> ?_⟩;have hq:q=x\/q=y\/q=z:=by simpa using hq
   rcases hq with rfl|rfl|rfl
   .refine dU (Kx:=fun e h''=>ah P R all a k e d h'') (fC A fun e h hk=>⟨fun hh=>hk.1 (gx.resolve_right (by rw[hh];decide)),hk.2⟩) fun e2 w2 hr2 K2=> ?_
    exact bf hS hsel a _ _ d w2 (hr.trans (hr1.trans hr2)) o1 K2
   .refine dU (Kx:=fun e h''=>ah P R all b k e d h'') (fC B fun e h hk=>⟨fun hh=>hk.1 (gy.resolve_right (by rw[hh];decide)),hk.2⟩) fun e2 w2 hr2 K2=> ?_
    have:=bf (w0:=w0) hS hsel b _ _ d w2 (hr.trans (hr1.trans hr2)) o2 K2;rw[<-h2]at this;exact this
   .refine dU (Kx:=fun e h''=>ah P R all c k e d h'') (fC C fun e h hk=>⟨fun hh=>hk.1 (gz.resolve_right (by rw[hh];decide)),hk.2⟩) fun e2 w2 hr2 K2=> ?_
    have:=bf (w0:=w0) hS hsel c _ _ d w2 (hr.trans (hr1.trans hr2)) o3 K2;rw[<-h3]at this;exact this
theorem zB7 (hm:P.follows .mixedOrders=true)(hS:Sta R){id:Nat}{all:List Oper}{k:aj}{e:Env}{d:List Deferred}{h:Heap}(t:PT)
 (hsel:Region.noSelect all.toArray=true) (hlen:t.size=all.length) (hok:okT t.G all t (Array.replicate all.length false)=true)
 (H:ah P R all t k e d h):WP l P (.region id all.toArray true) k e d h:=by
 unfold WP;intro w hw;subst hw;refine wpIn_region_any hm ?_;have h1:=bf (w0:=w) (G:=t.G) hS hsel t _ e d {w with drawn:=w.drawn+1} ⟨rfl,rfl,rfl⟩ hok H;rw[hlen]at h1;have h2:=jc (l:=l) (Q':=fun x a w'=>k x a.tmps.toList a.defers w'.heap/\Rest w w') hS (fun a w' hq=>hq) _ _ _ _ h1;simpa using h2
variable {all:List Oper}{rest:PT}{k:aj}{e:Env}{d:List Deferred}{h:Heap}{dst:Option Tmp}{op:Op}{ty:TypeId}{pos:String}{after:Array Edge}{i x y:Nat}{a b:PT}
def xV (P:Program)(R:Heap->Heap->Prop)(all:List Oper)(rest:PT)(k:aj)(dst:Option Tmp)(e:Env)(d:List Deferred):Value->Heap->Prop:=fun v h=>ah P R all rest k (aU e dst v) d h
theorem Wt {v:Value}:xV P R all rest k dst e d v h=ah P R all rest k (aU e dst v) d h:=eqi rfl
def stT (P:Program)(R:Heap->Heap->Prop)(o:Option Oper)(all:List Oper)(rest:PT)(k:aj)(e:Env)(d:List Deferred)(h:Heap):Prop:=
 match o with
 |some o=>ax o.guard all e (fun e=>dK P R o.op o.type e h (fun v h'=>xV P R all rest k o.dst e d v h')) (fun e=>ah P R all rest k (aU e o.dst undef) d h)
 |none=>False
theorem JQ:ah P R all (.quiet i rest) k e d h=stT P R all[i]? all rest k e d h:=by simp only[ah,stT,xV]
theorem QX:stT P R (some ⟨dst,op,ty,pos,after,none⟩) all rest k e d h=dK P R op ty e h (xV P R all rest k dst e d):=by simp only[stT,ax]
def Pj (P:Program)(R:Heap->Heap->Prop)(o:Option Oper)(all:List Oper)(rest:PT)(k:aj)(e:Env)(d:List Deferred)(h:Heap):Prop:=
 match o with
 |some o=>ax o.guard all e (fun e=>fK P o.op e h (fun v h'=>xV P R all rest k o.dst e d v h')) (fun e=>ah P R all rest k (aU e o.dst undef) d h)
 |none=>False
theorem Kb:ah P R all (.pure i rest) k e d h=Pj P R all[i]? all rest k e d h:=by simp only[ah,Pj,xV]
theorem LH:Pj P R (some ⟨dst,op,ty,pos,after,none⟩) all rest k e d h=fK P op e h (xV P R all rest k dst e d):=by simp only[Pj,ax]
theorem Q8 {K:Env->Heap->Prop}:stO P all (some ⟨dst,op,ty,pos,after,none⟩) e h K=opW P op ty e h (fun v h'=>K (aU e dst v) h'):=by simp only[stO,ax]
theorem zBd {K:Env->Heap->Prop}{j:Nat}{s:Tmp}(hs:fQ all j=some s)(hv:e.getD s undef= .bool true):stO P all (some ⟨dst,op,ty,pos,after,some (j,true)⟩) e h K=opW P op ty (e.set s (.bool true)) h (fun v h'=>K (aU (e.set s (.bool true)) dst v) h'):=by
 simp only[stO,ax,hs,au,hv];simp
theorem zBb {K:Env->Heap->Prop}{j:Nat}{s:Tmp}(hs:fQ all j=some s)(hv:e.getD s undef= .bool false):stO P all (some ⟨dst,op,ty,pos,after,some (j,true)⟩) e h K=K (aU (e.set s (.bool false)) dst undef) h:=by
 simp only[stO,ax,hs,au,hv];simp
def gtT (P:Program)(R:Heap->Heap->Prop)(v:Value)(s:Tmp)(want:Bool)(op:Op)(ty:TypeId)(all:List Oper)(rest:PT)(k:aj)(dst:Option Tmp)(e:Env)(d:List Deferred)(h:Heap):Prop:=
 au v (fun b=>if b=want then dK P R op ty (e.set s (.bool b)) h (xV P R all rest k dst (e.set s (.bool b)) d)else ah P R all rest k (aU (e.set s (.bool b)) dst undef) d h) (ah P R all rest k (aU e dst undef) d h)
def Y5 (P:Program)(R:Heap->Heap->Prop)(s:Option Tmp)(want:Bool)(op:Op)(ty:TypeId)(all:List Oper)(rest:PT)(k:aj)(dst:Option Tmp)(e:Env)(d:List Deferred)(h:Heap):Prop:=
 match s with|some s=>gtT P R (e.getD s undef) s want op ty all rest k dst e d h|none=>ah P R all rest k (aU e dst undef) d h
theorem RN {j:Nat}{want:Bool}:stT P R (some ⟨dst,op,ty,pos,after,some (j,want)⟩) all rest k e d h=Y5 P R (fQ all j) want op ty all rest k dst e d h:=by
 simp only[stT,ax,Y5];cases fQ all j<;>rfl
theorem Q4 {s:Tmp}{want:Bool}:Y5 P R (some s) want op ty all rest k dst e d h=gtT P R (e.getD s undef) s want op ty all rest k dst e d h:=eqi rfl
theorem Y8 {s:Tmp}:gtT P R (.bool true) s true op ty all rest k dst e d h=dK P R op ty (e.set s (.bool true)) h (xV P R all rest k dst (e.set s (.bool true)) d):=by simp[gtT,au]
theorem Xy {s:Tmp}:gtT P R (.bool false) s false op ty all rest k dst e d h=dK P R op ty (e.set s (.bool false)) h (xV P R all rest k dst (e.set s (.bool false)) d):=by simp[gtT,au]
theorem Y6 {s:Tmp}:gtT P R (.bool true) s false op ty all rest k dst e d h=ah P R all rest k (aU (e.set s (.bool true)) dst undef) d h:=by simp[gtT,au]
theorem Ya {s:Tmp}:gtT P R (.bool false) s true op ty all rest k dst e d h=ah P R all rest k (aU (e.set s (.bool false)) dst undef) d h:=by simp[gtT,au]
theorem QD {s:Tmp}{w:Bool}{vs:Array Value}:gtT P R (.tuple vs) s w op ty all rest k dst e d h=ah P R all rest k (aU e dst undef) d h:=by simp[gtT,au]
def gtP (P:Program)(R:Heap->Heap->Prop)(v:Value)(s:Tmp)(want:Bool)(op:Op)(all:List Oper)(rest:PT)(k:aj)(dst:Option Tmp)(e:Env)(d:List Deferred)(h:Heap):Prop:=
 au v (fun b=>if b=want then fK P op (e.set s (.bool b)) h (xV P R all rest k dst (e.set s (.bool b)) d)else ah P R all rest k (aU (e.set s (.bool b)) dst undef) d h) (ah P R all rest k (aU e dst undef) d h)
def YH (P:Program)(R:Heap->Heap->Prop)(s:Option Tmp)(want:Bool)(op:Op)(all:List Oper)(rest:PT)(k:aj)(dst:Option Tmp)(e:Env)(d:List Deferred)(h:Heap):Prop:=
 match s with|some s=>gtP P R (e.getD s undef) s want op all rest k dst e d h|none=>ah P R all rest k (aU e dst undef) d h
theorem Kk {j:Nat}{want:Bool}:Pj P R (some ⟨dst,op,ty,pos,after,some (j,want)⟩) all rest k e d h=YH P R (fQ all j) want op all rest k dst e d h:=by
 simp only[Pj,ax,YH];cases fQ all j<;>rfl
theorem Ps {s:Tmp}{want:Bool}:YH P R (some s) want op all rest k dst e d h=gtP P R (e.getD s undef) s want op all rest k dst e d h:=eqi rfl
theorem Z9 {s:Tmp}:gtP P R (.bool true) s true op all rest k dst e d h=fK P op (e.set s (.bool true)) h (xV P R all rest k dst (e.set s (.bool true)) d):=by simp[gtP,au]
theorem ZZ {s:Tmp}:gtP P R (.bool false) s false op all rest k dst e d h=fK P op (e.set s (.bool false)) h (xV P R all rest k dst (e.set s (.bool false)) d):=by simp[gtP,au]
theorem ZR {s:Tmp}:gtP P R (.bool true) s false op all rest k dst e d h=ah P R all rest k (aU (e.set s (.bool true)) dst undef) d h:=by simp[gtP,au]
theorem ZC {s:Tmp}:gtP P R (.bool false) s true op all rest k dst e d h=ah P R all rest k (aU (e.set s (.bool false)) dst undef) d h:=by simp[gtP,au]
theorem Q7 {s:Tmp}{w:Bool}{vs:Array Value}:gtP P R (.tuple vs) s w op all rest k dst e d h=ah P R all rest k (aU e dst undef) d h:=by simp[gtP,au]
def gtO (P:Program)(v:Value)(s:Tmp)(want:Bool)(op:Op)(ty:TypeId)(dst:Option Tmp)(e:Env)(h:Heap)(K:Env->Heap->Prop):Prop:=
 au v (fun b=>if b=want then opW P op ty (e.set s (.bool b)) h (fun v h'=>K (aU (e.set s (.bool b)) dst v) h')else K (aU (e.set s (.bool b)) dst undef) h) (K (aU e dst undef) h)
def YI (P:Program)(s:Option Tmp)(want:Bool)(op:Op)(ty:TypeId)(dst:Option Tmp)(e:Env)(h:Heap)(K:Env->Heap->Prop):Prop:=
 match s with|some s=>gtO P (e.getD s undef) s want op ty dst e h K|none=>K (aU e dst undef) h
theorem Qn {j:Nat}{want:Bool}{K:Env->Heap->Prop}:stO P all (some ⟨dst,op,ty,pos,after,some (j,want)⟩) e h K=YI P (fQ all j) want op ty dst e h K:=by
 simp only[stO,ax,YI];cases fQ all j<;>rfl
theorem Qg {s:Tmp}{want:Bool}{K:Env->Heap->Prop}:YI P (some s) want op ty dst e h K=gtO P (e.getD s undef) s want op ty dst e h K:=eqi rfl
theorem YR {s:Tmp}{K:Env->Heap->Prop}:gtO P (.bool true) s true op ty dst e h K=opW P op ty (e.set s (.bool true)) h (fun v h'=>K (aU (e.set s (.bool true)) dst v) h'):=by simp[gtO,au]
theorem ZU {s:Tmp}{K:Env->Heap->Prop}:gtO P (.bool false) s false op ty dst e h K=opW P op ty (e.set s (.bool false)) h (fun v h'=>K (aU (e.set s (.bool false)) dst v) h'):=by simp[gtO,au]
theorem Yo {s:Tmp}{K:Env->Heap->Prop}:gtO P (.bool true) s false op ty dst e h K=K (aU (e.set s (.bool true)) dst undef) h:=by simp[gtO,au]
theorem Z5 {s:Tmp}{K:Env->Heap->Prop}:gtO P (.bool false) s true op ty dst e h K=K (aU (e.set s (.bool false)) dst undef) h:=by simp[gtO,au]
theorem QC {s:Tmp}{w:Bool}{vs:Array Value}{K:Env->Heap->Prop}:gtO P (.tuple vs) s w op ty dst e h K=K (aU e dst undef) h:=by simp[gtO,au]
set_option linter.defProp false
def treeS:=And.intro (And.intro (And.intro @JQ @Kb) (And.intro (And.intro @QX @LH) (And.intro (And.intro @RN @Kk) (And.intro @Q8 @Qn))))
 (And.intro (And.intro (And.intro @Q4 @Ps) (And.intro @Qg @Wt)) (And.intro (And.intro (And.intro @Y8 @Xy) (And.intro @Y6 (And.intro @Ya @QD))) (And.intro (And.intro (And.intro @Z9 @ZZ) (And.intro @ZR (And.intro @ZC @Q7))) (And.intro (And.intro @YR @ZU) (And.intro @Yo (And.intro @Z5 @QC))))))
theorem zAN (H:∀h',R h h'->k .normal e d h'):ah P R all .fin k e d h:=H
theorem Zk (H:∀h',R h h'->stO P all all[i]? e h' (fun e h''=>ah P R all rest k e d h'')):ah P R all (.one i rest) k e d h:=H
theorem YD (H:∀h',R h h'->stO P all all[i]? e h' (fun e h''=>R h' h''/\ah P R all rest k e d h'')):ah P R all (.keep i rest) k e d h:=H
theorem Y4 (H:∀h',R h h'->stO P all all[x]? e h' (fun e h''=>R h' h''/\ah P R all a k e d h'')/\stO P all all[y]? e h' (fun e h''=>R h' h''/\ah P R all b k e d h'')):ah P R all (.fork x y a b) k e d h:=H
theorem Xh {u v:Bool}(H:∀h',R h h'->stO P all all[x]? e h' (fun e h''=>(u=true->R h' h'')/\ah P R all a k e d h'')/\stO P all all[y]? e h' (fun e h''=>(v=true->R h' h'')/\ah P R all b k e d h'')):ah P R all (.yo x y u v a b) k e d h:=H
theorem XQ {z:Nat}{u v t:Bool}{c:PT}(H:∀h',R h h'->stO P all all[x]? e h' (fun e h''=>(u=true->R h' h'')/\ah P R all a k e d h'')/\stO P all all[y]? e h' (fun e h''=>(v=true->R h' h'')/\ah P R all b k e d h'')/\stO P all all[z]? e h' (fun e h''=>(t=true->R h' h'')/\ah P R all c k e d h'')):ah P R all (.lu x y z u v t a b c) k e d h:=H
theorem eqh {p:Heap->Prop}(H:p h):∀h',EqH h h'->p h':=fun h' hh=>by rw[show h'=h from hh];exact H
theorem ZX (H:k .normal e d h):ah P EqH all .fin k e d h:=eqh H
theorem Yf (H:stO P all all[i]? e h (fun e h''=>ah P EqH all rest k e d h'')):ah P EqH all (.one i rest) k e d h:=eqh (p:=fun h=>stO P all all[i]? e h (fun e h''=>ah P EqH all rest k e d h'')) H
theorem XN (H:stO P all all[i]? e h (fun e h''=>EqH h h''/\ah P EqH all rest k e d h'')):ah P EqH all (.keep i rest) k e d h:=eqh (p:=fun h=>stO P all all[i]? e h (fun e h''=>EqH h h''/\ah P EqH all rest k e d h'')) H
theorem Vm {u v:Bool}(A:stO P all all[x]? e h (fun e h''=>(u=true->EqH h h'')/\ah P EqH all a k e d h''))(B:stO P all all[y]? e h (fun e h''=>(v=true->EqH h h'')/\ah P EqH all b k e d h'')):ah P EqH all (.yo x y u v a b) k e d h:=
 eqh (p:=fun h=>stO P all all[x]? e h (fun e h''=>(u=true->EqH h h'')/\ah P EqH all a k e d h'')/\stO P all all[y]? e h (fun e h''=>(v=true->EqH h h'')/\ah P EqH all b k e d h'')) ⟨A,B⟩
theorem WK {z:Nat}{u v t:Bool}{c:PT}(A:stO P all all[x]? e h (fun e h''=>(u=true->EqH h h'')/\ah P EqH all a k e d h''))(B:stO P all all[y]? e h (fun e h''=>(v=true->EqH h h'')/\ah P EqH all b k e d h''))(C:stO P all all[z]? e h (fun e h''=>(t=true->EqH h h'')/\ah P EqH all c k e d h'')):ah P EqH all (.lu x y z u v t a b c) k e d h:=
 eqh (p:=fun h=>stO P all all[x]? e h (fun e h''=>(u=true->EqH h h'')/\ah P EqH all a k e d h'')/\stO P all all[y]? e h (fun e h''=>(v=true->EqH h h'')/\ah P EqH all b k e d h'')/\stO P all all[z]? e h (fun e h''=>(t=true->EqH h h'')/\ah P EqH all c k e d h'')) ⟨A,B,C⟩
end tree
section fresh
variable {P:Program}{h:Heap}{er:Env}{ty:TypeId}
theorem Um {t t2 el e2:TypeId}{z:Value}{s:Nat}(hu:P.underlying t=some (.slice el))(hu2:P.underlying t2=some (.slice e2))(hi:(P.info? el).isSome=true)(hsz:szT P el=s)(hz:dJ P el=some z)(hzs:z.cells.size=s)
 {x y:Operand} {g:Nat} {b:Option Addr} {m c:Nat} {ys:List Value} {K:Value->Heap->Prop} (hx:ev er x= .slice (some ⟨g,0,none⟩) 0 0) (hy:ev er y= .slice b m c) (q2:h[g]? =some (.cells #[] el)) (I:Row h b ys) (hyl:ys.length=m*s) (h1:∀u∈ys,u.oneCell'=true) (hb:m<=1000000) (hby:m*iA P el<=1000000)
 (H:∀a' cap' h',iV g h' el s a' m cap' ys->Ext h h'->K (.slice a' m cap') h'):aI P (.call ⟨.builtin .append,#[x,y],#[t,t2]⟩) ty er h K:=by
 unfold aI;refine And.intro rfl fun w hw=> ?_
 subst hw;obtain⟨i,hi⟩:=Option.isSome_iff_exists.1 hi;have hsz:i.size=s:=by simpa[szT,hi]using hsz
 have hz:i.zero=some z:=by simpa[dJ,hi]using hz
 have hby:m*i.bytes<=1000000:=by simpa[iA,hi]using hby
 have hs:=Nr (P:=P) (ats:= #[t,t2]) (c:=c) rfl hu2 I hyl;have hargs: #[x,y].map (ev er)= #[.slice (some ⟨g,0,none⟩) 0 0,.slice b m c]:=by simp[hx,hy]
 have key:∀v w',(Builtin.append_ #[t,t2] ty #[.slice (some ⟨g,0,none⟩) 0 0,.slice b m c]).run P w= .ok v w'->Rest w w'->K v w'.heap->
  dQ P w K ((execOp (ev er) {dst:=none,op:= .call ⟨.builtin .append,#[x,y],#[t,t2]⟩,type:=ty,pos:= "",after:= #[],guard:=none}).run P w):=by
  intro v w' h1 h2 h3;have:(execOp (ev er) {dst:=none,op:= .call ⟨.builtin .append,#[x,y],#[t,t2]⟩,type:=ty,pos:= "",after:= #[],guard:=none}).run P w= .ok (.value v) w':=by
   simp only[execOp,resolve,invoke,builtin,Sem.run_bind,Sem.run_pure,Result.andThen_ok,hargs,h1]
  rw[this];exact⟨h3,h2⟩
 have hlt:=bA q2;by_cases hm:m=0
 .subst hm;have hy0:ys=[]:=List.length_eq_zero_iff.1 (by simpa using hyl);subst hy0;have g1:=Go.Run.oq (P:=P) (ty:=ty) (ats:= #[t,t2]) (sLen:=0) (sCap:=0) (off:=0) rfl hu hi w (by rw[hsz];exact hs) q2 h1 (Nat.le_refl _) (by simp);have hh:=setRow_heap (w:=w) (cur:= #[]) q2 (splice (#[]:Array Value).toList (0+0*i.size) []);refine key _ _ g1 ⟨rfl,rfl,rfl⟩ (H _ _ _ ⟨by simp,.inr ⟨g,_,rfl,Nat.le_refl _,hh.1,by simp,Nat.le_refl _,by simp⟩⟩ ⟨by rw[hh.2.size];exact Nat.le_refl _,fun b' hb'=> ?_⟩);by_cases hbg:b'=g
  .subst hbg;rw[hh.1,q2];simp[splice]
  .exact hh.2.old b' hbg
 .have g1:=Go.Run.uy (P:=P) (ty:=ty) (ats:= #[t,t2]) (z:=z) (sLen:=0) (sCap:=0) (b:=some ⟨g,0,none⟩) (olds:=[]) rfl hu hi hz w (by rw[hsz];exact hs)
   (fun w' hw'=>by
    have hI:Row w'.heap (some ⟨g,0,none⟩) []:= .inl rfl;have:=qJ (P:=P) (c:=0) (s:=s) (m:=0) (k:=0) hI (by simp) (Nat.le_refl 0);rw[hsz];simpa using this) (by omega) (by rw[Nat.zero_add];exact hby) (by omega)
  have hge:=grownCap_ge w (0+m) 0 el;have hmm:0+m=m:=Nat.zero_add m;rw[hmm]at g1 hge;refine key _ _ g1 ⟨rfl,rfl,rfl⟩ (H _ _ _ ⟨hyl,.inr ⟨w.heap.size,_,rfl,Nat.le_of_lt hlt,jD,?_,hge,?_⟩⟩ ((Ext.refl _).push _))
  .have e1:m*s+(grownCap w m 0 el-m)*s=grownCap w m 0 el*s:=by rw[<-Nat.add_mul];congr 1;omega
   simp only[List.size_toArray,List.length_append,Array.length_toList,iF,hzs,hyl,List.length_nil,Nat.zero_add]at e1 ⊢;omega
  .rw[List.toList_toArray,List.nil_append,List.take_append_of_le_length (by omega),List.take_of_length_le (by omega)]
end fresh
end Go.Eng
