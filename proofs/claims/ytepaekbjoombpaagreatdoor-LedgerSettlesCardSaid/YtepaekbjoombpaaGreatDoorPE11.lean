/- Texts joined by pack.py: lemmas for YtepaekbjoombpaaGreatDoorSettles. No condition. -/
import Derived.Test.YtepaekbjoombpaaGreatDoorPE10
set_option linter.unusedSimpArgs false
set_option linter.unusedVariables false
set_option linter.defProp false
section
set_option linter.unusedVariables false
set_option linter.unusedSimpArgs false
namespace Go.Eng
open Go
attribute [local semireducible] zg opQS zbh setD WP
section drawB
variable {l:Option Nat} {P:Program} {ops:Array Oper}
structure Pre (R:Heap→Heap→Prop):Prop where
  refl:∀ h,R h h
  trans:∀ a b c,R a b→R b c→R a c
theorem Pre.of {R:Heap→Heap→Prop}(hS:Pre R){a b:Heap}(h:EqH a b):R a b:=by rw [show b=a from h]; exact hS.1 _
def anyB (P:Program)(ops:Array Oper)(R:Heap→Heap→Prop)(G:Nat→Bool)(Q:Act→World→Prop):Nat→Array Bool→Act→World→Prop
  | 0,listed,a,w=>∀ w1,Rest w w1→EqH w.heap w1.heap→Region.ready .any ops listed=[]∧Q a w1
  | n+1,listed,a,w=>∀ w1,Rest w w1→EqH w.heap w1.heap→(Region.ready .any ops listed=[]→Q a w1) ∧
      ∀ i∈Region.ready .any ops listed,opD P ops i (fun a' w'=>(G i=true→R w1.heap w'.heap)∧Rest w1 w'∧anyB P ops R G Q n (listed.setIfInBounds i true) a' w') a w1
variable {R:Heap→Heap→Prop} {G:Nat→Bool} {Q:Act→World→Prop}
theorem eqT {a b c:Heap}(x:EqH a b)(y:EqH b c):EqH a c:=Eq.trans y x
theorem zdN  {n:Nat}{listed:Array Bool}{a:Act}{w w':World}(hr:Rest w w')(hR:EqH w.heap w'.heap)(H:anyB P ops R G Q n listed a w):anyB P ops R G Q n listed a w':=by
  cases n with
  | zero=>exact fun w1 h1 h2=>H w1 (hr.trans h1) (eqT hR h2)
  | succ n=>exact fun w1 h1 h2=>H w1 (hr.trans h1) (eqT hR h2)
theorem zf5  {Q':Exit→Act→World→Prop}(hQ:∀ a w,Q a w→Q' .normal a w):∀ (n:Nat) (listed:Array Bool) (a:Act) (w:World),anyB P ops R G Q n listed a w→wpAnyIn (fen l) 0 P .any ops Q' n listed a w
  | 0,listed,a,w,H=>⟨(H w (Rest.refl w) rfl).1,hQ _ _ (H w (Rest.refl w) rfl).2⟩
  | n+1,listed,a,w,H=>by
    have H:=H w (Rest.refl w) rfl
    exact⟨fun h0=>hQ _ _ (H.1 h0),fun i hi=>wpOpIn_mono (fun a' w' h'=>zf5 hQ n _ a' w' h'.2.2) (zdy (H.2 i hi))⟩
def YdB (P:Program)(ops:Array Oper)(R:Heap→Heap→Prop)(o:Oper)(v:Value)(a:Act)(w:World):Prop:=
  (Region.wanted o (yielded ops a.tmps)=true∧∀ w',Rest w w'→R w.heap w'.heap→opSw P o a w' (fun v' w''=>v'=v∧EqH w'.heap w''.heap)) ∨
  (Region.wanted o (yielded ops a.tmps)=false∧v=undef)
theorem zqU (hS:Pre R){o:Oper}{v:Value}{a:Act}{w w':World}(hr:Rest w w')(hR:R w.heap w'.heap)(H:YdB P ops R o v a w):YdB P ops R o v a w':=by
  rcases H with⟨h1,h2⟩ | h
  · exact .inl ⟨h1,fun w1 hr1 hR1=>h2 w1 (hr.trans hr1) (hS.2 _ _ _ hR hR1)⟩
  · exact .inr h
theorem YdB_of {o:Oper}{v:Value}{a a':Act}{w:World}(H:YdB P ops R o v a w)(he:execOp a'.eval o=execOp a.eval o)(hw:Region.wanted o (yielded ops a'.tmps)=Region.wanted o (yielded ops a.tmps)):YdB P ops R o v a' w:=by
  unfold YdB opSw at *
  rw [he,hw]
  exact H
theorem zji (hS:Pre R){i:Nat}{oi:Oper}{v:Value}(hi:ops[i]?=some oi)(hsel:∀ (j:Nat) (o:Oper) cs b,ops[j]?=some o→o.op≠.select cs b)(Bk:List Nat)(hBk:∀ j∈Bk,j≠i∧∀ oj,ops[j]?=some oj→∃ e∈oj.after,Region.binds .any e=true∧(e.on=i∨e.on∈Bk)) :
    ∀ (fuel:Nat) (listed:Array Bool) (a:Act) (w:World),
      (∀ j oj,ops[j]?=some oj→j≠i→listed.getD j true=false→j ∉ Bk→oi.apart ops oj=true∧G j=true)→(∀ j∈Bk,listed.getD j true=false) →
      i∈Region.ready .any ops listed→YdB P ops R oi v a w →
      anyB P ops R G Q fuel (listed.setIfInBounds i true) (a.put oi.dst v) w→anyB P ops R G Q (fuel+1) listed a w:=by
  intro fuel
  have self:∀ (fuel:Nat) (listed:Array Bool) (a:Act) (w w1:World),Rest w w1→EqH w.heap w1.heap→YdB P ops R oi v a w →
      anyB P ops R G Q fuel (listed.setIfInBounds i true) (a.put oi.dst v) w→opD P ops i (fun a' w'=>(G i=true→R w1.heap w'.heap)∧Rest w1 w'∧anyB P ops R G Q fuel (listed.setIfInBounds i true) a' w') a w1:=by
    intro fuel listed a w w1 hr1 hR1 hy H
    unfold opD
    simp only [hi]
    rcases hy with⟨hw,hy⟩ | ⟨hw,hv⟩
    · simp only [hw,if_true]
      obtain⟨hd,hs⟩:=hy w1 hr1 (hS.of hR1)
      refine⟨hd,zaV ?_ hs⟩
      rintro v' w'' hr ⟨rfl,hR⟩
      exact⟨fun _=>hS.of hR,hr,zdN (hr1.trans hr) (eqT hR1 hR) H⟩
    · simp only [hw]
      subst hv
      exact⟨fun _=>hS.1 _,Rest.refl _,zdN hr1 hR1 H⟩
  induction fuel with
  | zero=>
    intro listed a w _ hbl hr hy H w1 hr1 hR1
    refine⟨fun h=>(by rw [h] at hr; cases hr),fun j hj=>?_⟩
    by_cases hji:j=i
    · subst hji; exact self 0 listed a w w1 hr1 hR1 hy H
    · have:=ready_mono hj hji
      rw [(H w1 hr1 hR1).1] at this
      cases this
  | succ fuel ih=>
    intro listed a w hfree hbl hr hy H w1 hr1 hR1
    refine⟨fun h=>(by rw [h] at hr; cases hr),fun j hj=>?_⟩
    by_cases hji:j=i
    · subst hji; exact self (fuel+1) listed a w w1 hr1 hR1 hy H
    · have h1:=(H w1 hr1 hR1).2 j (ready_mono hj hji)
      obtain⟨hjun,oj,hoj,hall⟩:=mem_ready.1 hj
      have hnot:j ∉ Bk:=fun hjB=>by
        obtain⟨e,he,hb,hon⟩:=(hBk j hjB).2 oj hoj
        have h1:=hall e he hb
        have h0:listed.getD e.on true=false:=by
          rcases hon with hon | hon
          · rw [hon]; exact (mem_ready.1 hr).1
          · exact hbl _ hon
        rcases Nat.lt_or_ge e.on listed.size with h' | h'
        · simp [h'] at h0 h1; rw [h0] at h1; cases h1
        · simp [Array.getElem?_eq_none h'] at h1
      obtain⟨hap,hGj⟩:=hfree j oj hoj hji hjun hnot
      obtain⟨hp1,hp2,hp3⟩:=Oper.apart_spec hap
      have hsj:∀ cs b,oj.op≠.select cs b:=fun cs b=>hsel j oj cs b hoj
      have hsi:∀ cs b,oi.op≠.select cs b:=fun cs b=>hsel i oi cs b hi
      have hfree':∀ k ok,ops[k]?=some ok→k≠i→(listed.setIfInBounds j true).getD k true=false →
          k ∉ Bk→oi.apart ops ok=true∧G k=true:=fun k ok hk hki hun hno=>by
        refine hfree k ok hk hki ?_ hno
        by_cases hjk:j=k
        · subst hjk; exact hjun
        · rw [getD_set_ne true hjk] at hun; exact hun
      have hbl':∀ k∈Bk,(listed.setIfInBounds j true).getD k true=false:=fun k hk=>by
        have hjk:j≠k:=fun h=>hnot (h ▸ hk)
        rw [getD_set_ne true hjk]
        exact hbl k hk
      have step:∀ (u:Value) (w':World),Rest w1 w'→((G j=true→R w1.heap w'.heap)∧Rest w1 w'∧anyB P ops R G Q fuel ((listed.setIfInBounds i true).setIfInBounds j true) ((a.put oi.dst v).put oj.dst u) w') →
          (G j=true→R w1.heap w'.heap)∧Rest w1 w'∧anyB P ops R G Q (fuel+1) (listed.setIfInBounds j true) (a.put oj.dst u) w':=by
        rintro u w' hr' ⟨hg,hr2,hany⟩
        refine⟨hg,hr2,ih (listed.setIfInBounds j true) (a.put oj.dst u) w' hfree' hbl' (ready_mono hr (Ne.symm hji)) ?_ ?_⟩
        · exact YdB_of (zqU hS (hr1.trans hr2) (hS.2 _ _ _ (hS.of hR1) (hg hGj)) hy) (execOp_put oi hsi a oj.dst u hp3) (wanted_put oi a oj.dst u hp3)
        · rw [Array.setIfInBounds_comm _ _ hji,← Act.put_comm a v u hp2]
          exact hany
      unfold opD at h1 ⊢
      simp only [hoj] at h1 ⊢
      rw [wanted_put oj a oi.dst v hp1] at h1
      split
      · rename_i hw
        simp only [hw,if_true] at h1
        refine⟨h1.1,?_⟩
        have h2:=h1.2
        rw [execOp_put oj hsj a oi.dst v hp1] at h2
        exact zaV (fun u w' hr' h3=>step u w' hr' h3) h2
      · rename_i hw
        simp only [hw] at h1
        exact step undef w1 (Rest.refl _) h1
theorem zhu (hS:Pre R){i:Nat}{oi:Oper}{v:Value}(hi:ops[i]?=some oi)(hsel:∀ (j:Nat) (o:Oper) cs b,ops[j]?=some o→o.op≠.select cs b)(Bk:List Nat)(hBk:∀ j∈Bk,j≠i∧∀ oj,ops[j]?=some oj→∃ e∈oj.after,Region.binds .any e=true∧(e.on=i∨e.on∈Bk)) :
    ∀ (fuel:Nat) (listed:Array Bool) (a:Act) (w:World),
      (∀ j oj,ops[j]?=some oj→j≠i→listed.getD j true=false→j ∉ Bk→oi.apart ops oj=true)→(∀ j∈Bk,listed.getD j true=false) →
      i∈Region.ready .any ops listed→YdP P ops oi v a w →
      anyB P ops R G Q fuel (listed.setIfInBounds i true) (a.put oi.dst v) w→anyB P ops R G Q (fuel+1) listed a w:=by
  intro fuel
  have self:∀ (fuel:Nat) (listed:Array Bool) (a:Act) (w w1:World),Rest w w1→EqH w.heap w1.heap→YdP P ops oi v a w →
      anyB P ops R G Q fuel (listed.setIfInBounds i true) (a.put oi.dst v) w→opD P ops i (fun a' w'=>(G i=true→R w1.heap w'.heap)∧Rest w1 w'∧anyB P ops R G Q fuel (listed.setIfInBounds i true) a' w') a w1:=by
    intro fuel listed a w w1 hr1 hR1 hy H
    unfold opD
    simp only [hi]
    rcases hy with⟨hw,hy⟩ | ⟨hw,hv⟩
    · simp only [hw,if_true]
      obtain⟨hd,hs⟩:=hy w1 hr1
      refine⟨hd,zaV ?_ hs⟩
      rintro v' w'' hr ⟨rfl,hE⟩
      have hR:EqH w1.heap w''.heap:=hE
      exact⟨fun _=>hS.of hR,hr,zdN (hr1.trans hr) (eqT hR1 hR) H⟩
    · simp only [hw]
      subst hv
      exact⟨fun _=>hS.1 _,Rest.refl _,zdN hr1 hR1 H⟩
  induction fuel with
  | zero=>
    intro listed a w _ hbl hr hy H w1 hr1 hR1
    refine⟨fun h=>(by rw [h] at hr; cases hr),fun j hj=>?_⟩
    by_cases hji:j=i
    · subst hji; exact self 0 listed a w w1 hr1 hR1 hy H
    · have:=ready_mono hj hji
      rw [(H w1 hr1 hR1).1] at this
      cases this
  | succ fuel ih=>
    intro listed a w hfree hbl hr hy H w1 hr1 hR1
    refine⟨fun h=>(by rw [h] at hr; cases hr),fun j hj=>?_⟩
    by_cases hji:j=i
    · subst hji; exact self (fuel+1) listed a w w1 hr1 hR1 hy H
    · have h1:=(H w1 hr1 hR1).2 j (ready_mono hj hji)
      obtain⟨hjun,oj,hoj,hall⟩:=mem_ready.1 hj
      have hnot:j ∉ Bk:=fun hjB=>by
        obtain⟨e,he,hb,hon⟩:=(hBk j hjB).2 oj hoj
        have h1:=hall e he hb
        have h0:listed.getD e.on true=false:=by
          rcases hon with hon | hon
          · rw [hon]; exact (mem_ready.1 hr).1
          · exact hbl _ hon
        rcases Nat.lt_or_ge e.on listed.size with h' | h'
        · simp [h'] at h0 h1; rw [h0] at h1; cases h1
        · simp [Array.getElem?_eq_none h'] at h1
      have hap:=hfree j oj hoj hji hjun hnot
      obtain⟨hp1,hp2,hp3⟩:=Oper.apart_spec hap
      have hsj:∀ cs b,oj.op≠.select cs b:=fun cs b=>hsel j oj cs b hoj
      have hsi:∀ cs b,oi.op≠.select cs b:=fun cs b=>hsel i oi cs b hi
      have hfree':∀ k ok,ops[k]?=some ok→k≠i→(listed.setIfInBounds j true).getD k true=false →
          k ∉ Bk→oi.apart ops ok=true:=fun k ok hk hki hun hno=>by
        refine hfree k ok hk hki ?_ hno
        by_cases hjk:j=k
        · subst hjk; exact hjun
        · rw [getD_set_ne true hjk] at hun; exact hun
      have hbl':∀ k∈Bk,(listed.setIfInBounds j true).getD k true=false:=fun k hk=>by
        have hjk:j≠k:=fun h=>hnot (h ▸ hk)
        rw [getD_set_ne true hjk]
        exact hbl k hk
      have step:∀ (u:Value) (w':World),Rest w1 w'→((G j=true→R w1.heap w'.heap)∧Rest w1 w'∧anyB P ops R G Q fuel ((listed.setIfInBounds i true).setIfInBounds j true) ((a.put oi.dst v).put oj.dst u) w') →
          (G j=true→R w1.heap w'.heap)∧Rest w1 w'∧anyB P ops R G Q (fuel+1) (listed.setIfInBounds j true) (a.put oj.dst u) w':=by
        rintro u w' hr' ⟨hg,hr2,hany⟩
        refine⟨hg,hr2,ih (listed.setIfInBounds j true) (a.put oj.dst u) w' hfree' hbl' (ready_mono hr (Ne.symm hji)) ?_ ?_⟩
        · exact YdP_of (zkC (hr1.trans hr2) hy) (execOp_put oi hsi a oj.dst u hp3) (wanted_put oi a oj.dst u hp3)
        · rw [Array.setIfInBounds_comm _ _ hji,← Act.put_comm a v u hp2]
          exact hany
      unfold opD at h1 ⊢
      simp only [hoj] at h1 ⊢
      rw [wanted_put oj a oi.dst v hp1] at h1
      split
      · rename_i hw
        simp only [hw,if_true] at h1
        refine⟨h1.1,?_⟩
        have h2:=h1.2
        rw [execOp_put oj hsj a oi.dst v hp1] at h2
        exact zaV (fun u w' hr' h3=>step u w' hr' h3) h2
      · rename_i hw
        simp only [hw] at h1
        exact step undef w1 (Rest.refl _) h1
end drawB
def RB (m:Nat)(h h':Heap):Prop:=h.size≤h'.size∧∀ b,b<m→h'[b]?=h[b]?
theorem ze8 (m:Nat):Pre (RB m):=⟨fun h=>⟨Nat.le_refl _,fun _ _=>rfl⟩,fun a b c x y=>⟨Nat.le_trans x.1 y.1,fun i hi=>(y.2 i hi).trans (x.2 i hi)⟩⟩
theorem RB.of_ext {m:Nat}{h h':Heap}(x:Ext h h')(hm:m≤h.size):RB m h h':=⟨x.size,fun b hb=>x.old b (by omega)⟩
theorem RB.of_upd {m b:Nat}{h h':Heap}(u:Upd h h' b)(hm:m≤b):RB m h h':=⟨by rw [u.size]; exact Nat.le_refl _,fun i hi=>u.old i (by omega)⟩
theorem RB.refl (m:Nat)(h:Heap):RB m h h:=(ze8 m).1 h
theorem RB.trans {m:Nat}{a b c:Heap}(x:RB m a b)(y:RB m b c):RB m a c:=(ze8 m).2 _ _ _ x y
theorem RB.get {m b:Nat}{h h':Heap}{o:Obj}(x:RB m h h')(hb:b<m)(hg:h[b]?=some o):h'[b]?=some o:=(x.2 b hb).trans hg
theorem RB.ext {h h':Heap}(x:RB h.size h h'):Ext h h':=⟨x.1,fun b hb=>x.2 b hb⟩
def oldP (m:Nat)(v:Value):Prop:=match v with | .pointer (some a)=>a.block<m | _=>False
def ldB (P:Program)(m:Nat)(o:Op)(e:Env)(h:Heap)(K:Value→Heap→Prop):Prop:=match o with | .load t x=>oldP m (ev e x)∧zar P t (ev e x) h K | _=>False
inductive PB where
  | fin
  | load (i:Nat) (r:PB)
  | pure (i:Nat) (r:PB)
  | keep (i:Nat) (r:PB)
  | fork (x y:Nat) (a b:PB)
  | fork3 (x y z:Nat) (a b c:PB)
def PB.size:PB→Nat
  | .fin=>0
  | .load _ r | .pure _ r | .keep _ r=>r.size+1
  | .fork _ _ a _=>a.size+1
  | .fork3 _ _ _ a _ _=>a.size+1
section zbT
variable {P:Program} {l:Option Nat} {m:Nat}
def zS (P:Program)(m:Nat)(all:List Oper):PB→Cont→Env→List Deferred→Heap→Prop
  | .fin,k,e,d,h=>k .normal e d h
  | .load i rest,k,e,d,h=>match all[i]? with
    | some o=>zN o.guard all e (fun e=>ldB P m o.op e h (fun v h'=>zS P m all rest k (putE e o.dst v) d h')) (fun e=>zS P m all rest k (putE e o.dst undef) d h)
    | none=>False
  | .pure i rest,k,e,d,h=>match all[i]? with
    | some o=>zN o.guard all e (fun e=>opPW P o.op e h (fun v h'=>zS P m all rest k (putE e o.dst v) d h')) (fun e=>zS P m all rest k (putE e o.dst undef) d h)
    | none=>False
  | .keep i rest,k,e,d,h=>stO P all all[i]? e h (fun e h''=>RB m h h''∧zS P m all rest k e d h'')
  | .fork x y a b,k,e,d,h=>stO P all all[x]? e h (fun e h''=>RB m h h''∧zS P m all a k e d h'')∧stO P all all[y]? e h (fun e h''=>RB m h h''∧zS P m all b k e d h'')
  | .fork3 x y z a b c,k,e,d,h=>stO P all all[x]? e h (fun e h''=>RB m h h''∧zS P m all a k e d h'')∧stO P all all[y]? e h (fun e h''=>RB m h h''∧zS P m all b k e d h'')∧stO P all all[z]? e h (fun e h''=>RB m h h''∧zS P m all c k e d h'')
def okB (all:List Oper):PB→Array Bool→Bool
  | .fin,listed=>(Region.ready .any all.toArray listed).isEmpty
  | .load i rest,listed=>(Region.ready .any all.toArray listed).contains i&&zgU all listed i (blk all listed i all.length 0 []) &&
      ((List.range all.length).all fun j=>j == i||listed.getD j true||(blk all listed i all.length 0 []).contains j||(match all[i]?,all[j]? with | some oi,some oj=>oi.apart all.toArray oj | _,_=>true)) &&
      okB all rest (listed.setIfInBounds i true)
  | .pure i rest,listed=>(Region.ready .any all.toArray listed).contains i&&zgU all listed i (blk all listed i all.length 0 []) &&
      ((List.range all.length).all fun j=>j == i||listed.getD j true||(blk all listed i all.length 0 []).contains j||(match all[i]?,all[j]? with | some oi,some oj=>oi.apart all.toArray oj | _,_=>true)) &&
      okB all rest (listed.setIfInBounds i true)
  | .keep i rest,listed=>decide (Region.ready .any all.toArray listed=[i])&&okB all rest (listed.setIfInBounds i true)
  | .fork x y a b,listed=>decide (Region.ready .any all.toArray listed=[x,y])&&(decide (a.size=b.size)&&(okB all a (listed.setIfInBounds x true)&&okB all b (listed.setIfInBounds y true)))
  | .fork3 x y z a b c,listed=>decide (Region.ready .any all.toArray listed=[x,y,z])&&(decide (a.size=b.size)&&(decide (a.size=c.size)&&(okB all a (listed.setIfInBounds x true)&&(okB all b (listed.setIfInBounds y true)&&okB all c (listed.setIfInBounds z true)))))
theorem zhT {t:TypeId}{v:Value}{h h':Heap}{K:Value→Heap→Prop}(ho:oldP m v)(hR:RB m h h')(H:zar P t v h K):∃ x,K x h∧zar P t v h' (fun y _=>y=x):=by
  unfold zar at H ⊢
  split at H
  case h_2=>exact H.elim
  rename_i p
  have hc:zT h' p=zT h p:=by
    cases p with
    | none=>rfl
    | some a=>unfold zT; simp only [hR.2 a.block ho]
  have hcs:∀ n,zaK h' p n=zaK h p n:=by
    intro n
    cases p with
    | none=>rfl
    | some a=>unfold zaK; simp only [hR.2 a.block ho]
  cases hag:aggT P t with
  | none=>simp [hag] at H
  | some b=>
    simp only [hag] at H ⊢
    cases b with
    | true=>
      obtain⟨hi,H⟩:=H
      rw [zc2] at H
      obtain⟨cs,h1,h2⟩:=H
      exact⟨_,h2,hi,zc2.2 ⟨cs,(hcs _).trans h1,rfl⟩⟩
    | false=>
      simp only at H ⊢
      rw [zbR] at H
      obtain⟨x,h1,h2⟩:=H
      exact⟨_,h2,zbR.2 ⟨x,hc.trans h1,rfl⟩⟩
theorem zq8 {o : Op} {e : Env} {h : Heap} {K : Value → Heap → Prop} (H : ldB P m o e h K) : zbm o = true ∧ ∃ v, K v h ∧ ∀ (ty : TypeId) (w : World), RB m h w.heap → (execOp (ev e) { dst := none, op := o, type := ty, pos := "", after := #[], guard := none }).run P w = .ok (.value v) w := by
  unfold ldB at H
  split at H
  · rename_i t x
    obtain⟨ho,H⟩:=H
    obtain⟨x0,hk,_⟩:=zhT ho (RB.refl m h) H
    refine⟨rfl,?_⟩
    have key:∀ h',RB m h h'→∃ y,K y h∧zar P t (ev e x) h' (fun z _=>z=y):=fun h' hR=>zhT ho hR H
    obtain⟨y,hy,hl⟩:=key h (RB.refl m h)
    refine⟨y,hy,fun ty w hR=>?_⟩
    have:zar P t (ev e x) h (fun z _=>z=y):=hl
    obtain⟨z,rfl,hz⟩:=zhT ho hR this
    obtain⟨u,rfl,hr⟩:=zdF hz
    have:=hr w rfl
    simp only [execOp,Sem.run_bind,this,Result.andThen_ok,Sem.run_pure]
  · exact H.elim
theorem zaG {all:List Oper}{k:Cont}{w0:World}(hsel:Region.noSelect all.toArray=true):∀ (t:PB) (listed:Array Bool) (e:Env) (d:List Deferred) (w:World),Rest w0 w →
    okB all t listed=true→zS P m all t k e d w.heap →
    anyB P all.toArray (RB m) (fun _=>true) (fun a w'=>k .normal a.tmps.toList a.defers w'.heap∧Rest w0 w') t.size listed ⟨e.toArray,d⟩ w
  | .fin,listed,e,d,w,hr,hok,H=>fun w1 hr1 hR1=>by
    refine⟨by simpa [okB] using hok,?_,hr.trans hr1⟩
    rw [show w1.heap=w.heap from hR1]
    unfold zS at H
    simpa using H
  | .load i rest,listed,e,d,w,hr,hok,H=>by
    simp only [okB,Bool.and_eq_true] at hok
    obtain⟨⟨⟨hready,hbk⟩,hG⟩,hok⟩:=hok
    unfold zS at H
    cases hi:all[i]? with
    | none=>simp [hi] at H
    | some o=>
      simp only [hi] at H
      have hi':all.toArray[i]?=some o:=by simpa using hi
      obtain⟨Bk,hBke⟩:∃ Bk,Bk=blk all listed i all.length 0 []:=⟨_,rfl⟩
      rw [← hBke] at hbk hG
      have hb1:∀ j∈Bk,listed.getD j true=false:=fun j hj=>by
        have:=List.all_eq_true.1 hbk j hj
        simp only [Bool.and_eq_true,Bool.not_eq_true'] at this
        exact this.1.1
      have hb2:∀ j∈Bk,j≠i∧∀ oj,all.toArray[j]?=some oj→∃ e∈oj.after,Region.binds .any e=true∧(e.on=i∨e.on∈Bk):=fun j hj=>by
        have:=List.all_eq_true.1 hbk j hj
        simp only [Bool.and_eq_true,bne_iff_ne,ne_eq] at this
        refine⟨this.1.2,fun oj hoj=>?_⟩
        have hj2:all[j]?=some oj:=by simpa using hoj
        have h2:=this.2
        rw [hj2] at h2
        obtain⟨e,he,hb⟩:=Array.any_eq_true'.1 h2
        simp only [Bool.and_eq_true,Bool.or_eq_true,beq_iff_eq,List.contains_eq_mem,decide_eq_true_eq] at hb
        exact⟨e,he,hb.1,hb.2⟩
      have hfr:∀ j oj,all.toArray[j]?=some oj→j≠i→listed.getD j true=false→j ∉ Bk→o.apart all.toArray oj=true:=by
        intro j oj hj hne hun hno
        have hlt:j<all.length:=by have:=(Array.getElem?_eq_some_iff.1 hj).1; simpa using this
        have:=List.all_eq_true.1 hG j (List.mem_range.2 hlt)
        have hj2:all[j]?=some oj:=by simpa using hj
        simp only [hi,hj2,Bool.or_eq_true,Bool.and_eq_true,beq_iff_eq,hne,false_or,hun,Bool.false_eq_true,List.contains_eq_mem,decide_eq_true_eq,hno] at this
        exact this
      have hrdy:i∈Region.ready .any all.toArray listed:=by simpa using hready
      rcases zaH H o rfl with⟨hw,hA⟩ | ⟨hw,hB⟩
      · obtain⟨hd,v,hk,hv⟩:=zq8 hA
        refine zji (ze8 m) hi' (Region.noSelect_spec hsel) Bk hb2 rest.size listed _ w (fun j oj a b c d=>⟨hfr j oj a b c d,rfl⟩) hb1 hrdy (v:=v) ?_ ?_
        · refine .inl ⟨hw,fun w' hr' hR=>⟨hd,?_⟩⟩
          rw [zaD,zav,hv _ w' hR]
          exact⟨⟨rfl,rfl⟩,Rest.refl _⟩
        · rw [zV]
          exact zaG hsel rest _ _ d w hr hok hk
      · refine zji (ze8 m) hi' (Region.noSelect_spec hsel) Bk hb2 rest.size listed _ w (fun j oj a b c d=>⟨hfr j oj a b c d,rfl⟩) hb1 hrdy (v:=undef) (.inr ⟨hw,rfl⟩) ?_
        rw [zV]
        exact zaG hsel rest _ _ d w hr hok hB
  | .pure i rest,listed,e,d,w,hr,hok,H=>by
    simp only [okB,Bool.and_eq_true] at hok
    obtain⟨⟨⟨hready,hbk⟩,hG⟩,hok⟩:=hok
    unfold zS at H
    cases hi:all[i]? with
    | none=>simp [hi] at H
    | some o=>
      simp only [hi] at H
      have hi':all.toArray[i]?=some o:=by simpa using hi
      obtain⟨Bk,hBke⟩:∃ Bk,Bk=blk all listed i all.length 0 []:=⟨_,rfl⟩
      rw [← hBke] at hbk hG
      have hb1:∀ j∈Bk,listed.getD j true=false:=fun j hj=>by
        have:=List.all_eq_true.1 hbk j hj
        simp only [Bool.and_eq_true,Bool.not_eq_true'] at this
        exact this.1.1
      have hb2:∀ j∈Bk,j≠i∧∀ oj,all.toArray[j]?=some oj→∃ e∈oj.after,Region.binds .any e=true∧(e.on=i∨e.on∈Bk):=fun j hj=>by
        have:=List.all_eq_true.1 hbk j hj
        simp only [Bool.and_eq_true,bne_iff_ne,ne_eq] at this
        refine⟨this.1.2,fun oj hoj=>?_⟩
        have hj2:all[j]?=some oj:=by simpa using hoj
        have h2:=this.2
        rw [hj2] at h2
        obtain⟨e,he,hb⟩:=Array.any_eq_true'.1 h2
        simp only [Bool.and_eq_true,Bool.or_eq_true,beq_iff_eq,List.contains_eq_mem,decide_eq_true_eq] at hb
        exact⟨e,he,hb.1,hb.2⟩
      have hfr:∀ j oj,all.toArray[j]?=some oj→j≠i→listed.getD j true=false→j ∉ Bk→o.apart all.toArray oj=true:=by
        intro j oj hj hne hun hno
        have hlt:j<all.length:=by have:=(Array.getElem?_eq_some_iff.1 hj).1; simpa using this
        have:=List.all_eq_true.1 hG j (List.mem_range.2 hlt)
        have hj2:all[j]?=some oj:=by simpa using hj
        simp only [hi,hj2,Bool.or_eq_true,Bool.and_eq_true,beq_iff_eq,hne,false_or,hun,Bool.false_eq_true,List.contains_eq_mem,decide_eq_true_eq,hno] at this
        exact this
      have hrdy:i∈Region.ready .any all.toArray listed:=by simpa using hready
      rcases zaH H o rfl with⟨hw,hA⟩ | ⟨hw,hB⟩
      · obtain⟨hd,v,hk,hv⟩:=zfo (ty:=o.type) hA
        refine zhu (ze8 m) hi' (Region.noSelect_spec hsel) Bk hb2 rest.size listed _ w hfr hb1 hrdy (v:=v) ?_ ?_
        · refine .inl ⟨hw,fun w' hr'=>⟨hd,?_⟩⟩
          rw [zaD,zav,hv w']
          exact⟨⟨rfl,rfl⟩,Rest.refl _⟩
        · rw [zV]
          exact zaG hsel rest _ _ d w hr hok hk
      · refine zhu (ze8 m) hi' (Region.noSelect_spec hsel) Bk hb2 rest.size listed _ w hfr hb1 hrdy (v:=undef) (.inr ⟨hw,rfl⟩) ?_
        rw [zV]
        exact zaG hsel rest _ _ d w hr hok hB
  | .keep i rest,listed,e,d,w,hr,hok,H=>by
    intro w1 hr1 hR1
    simp only [okB,Bool.and_eq_true,decide_eq_true_eq] at hok
    obtain⟨h1,hok⟩:=hok
    unfold zS at H
    rw [← show w1.heap=w.heap from hR1] at H
    rw [h1]
    refine⟨fun h=>by simp at h,fun q hq=>?_⟩
    have hq:q=i:=by simpa using hq
    subst hq
    refine zau (G:=fun _=>true) (Kx:=fun e h''=>zS P m all rest k e d h'') (zaN H fun e h hk=>⟨fun _=>hk.1,hk.2⟩) fun e2 w2 hr2 K2=>?_
    exact zaG hsel rest _ _ d w2 (hr.trans (hr1.trans hr2)) hok K2
  | .fork x y a b,listed,e,d,w,hr,hok,H=>by
    intro w1 hr1 hR1
    simp only [okB,Bool.and_eq_true,decide_eq_true_eq] at hok
    obtain⟨h1,h2,o1,o2⟩:=hok
    unfold zS at H
    rw [← show w1.heap=w.heap from hR1] at H
    obtain⟨A,B⟩:=H
    rw [h1]
    refine⟨fun h=>by simp at h,fun q hq=>?_⟩
    have hq:q=x∨q=y:=by simpa using hq
    rcases hq with rfl | rfl
    · refine zau (G:=fun _=>true) (Kx:=fun e h''=>zS P m all a k e d h'') (zaN A fun e h hk=>⟨fun _=>hk.1,hk.2⟩) fun e2 w2 hr2 K2=>?_
      exact zaG hsel a _ _ d w2 (hr.trans (hr1.trans hr2)) o1 K2
    · refine zau (G:=fun _=>true) (Kx:=fun e h''=>zS P m all b k e d h'') (zaN B fun e h hk=>⟨fun _=>hk.1,hk.2⟩) fun e2 w2 hr2 K2=>?_
      have:=zaG (w0:=w0) hsel b _ _ d w2 (hr.trans (hr1.trans hr2)) o2 K2
      rw [← h2] at this
      exact this
  | .fork3 x y z a b c,listed,e,d,w,hr,hok,H=>by
    intro w1 hr1 hR1
    simp only [okB,Bool.and_eq_true,decide_eq_true_eq] at hok
    obtain⟨h1,h2,h3,o1,o2,o3⟩:=hok
    unfold zS at H
    rw [← show w1.heap=w.heap from hR1] at H
    obtain⟨A,B,C⟩:=H
    rw [h1]
    refine⟨fun h=>by simp at h,fun q hq=>?_⟩
    have hq:q=x∨q=y∨q=z:=by simpa using hq
    rcases hq with rfl | rfl | rfl
    · refine zau (G:=fun _=>true) (Kx:=fun e h''=>zS P m all a k e d h'') (zaN A fun e h hk=>⟨fun _=>hk.1,hk.2⟩) fun e2 w2 hr2 K2=>?_
      exact zaG hsel a _ _ d w2 (hr.trans (hr1.trans hr2)) o1 K2
    · refine zau (G:=fun _=>true) (Kx:=fun e h''=>zS P m all b k e d h'') (zaN B fun e h hk=>⟨fun _=>hk.1,hk.2⟩) fun e2 w2 hr2 K2=>?_
      have:=zaG (w0:=w0) hsel b _ _ d w2 (hr.trans (hr1.trans hr2)) o2 K2
      rw [← h2] at this
      exact this
    · refine zau (G:=fun _=>true) (Kx:=fun e h''=>zS P m all c k e d h'') (zaN C fun e h hk=>⟨fun _=>hk.1,hk.2⟩) fun e2 w2 hr2 K2=>?_
      have:=zaG (w0:=w0) hsel c _ _ d w2 (hr.trans (hr1.trans hr2)) o3 K2
      rw [← h3] at this
      exact this
theorem WP_treeB (hm:P.follows .mixedOrders=true)(m:Nat){id:Nat}{all:List Oper}{k:Cont}{e:Env}{d:List Deferred}{h:Heap}(t:PB)
    (hsel:Region.noSelect all.toArray=true) (hlen:t.size=all.length) (hok:okB all t (Array.replicate all.length false)=true)
    (H:zS P m all t k e d h):WP l P (.region id all.toArray true) k e d h:=by
  unfold WP
  intro w hw
  subst hw
  refine wpIn_region_any hm ?_
  have h1:=zaG (w0:=w) hsel t _ e d { w with drawn:=w.drawn+1 } ⟨rfl,rfl,rfl⟩ hok H
  rw [hlen] at h1
  have h2:=zf5 (l:=l) (Q':=fun x a w'=>k x a.tmps.toList a.defers w'.heap∧Rest w w') (fun a w' hq=>hq) _ _ _ _ h1
  simpa using h2
variable {all:List Oper} {rest:PB} {k:Cont} {e:Env} {d:List Deferred} {h:Heap} {dst:Option Tmp} {op:Op} {ty:TypeId} {pos:String} {after:Array Edge} {i x y z:Nat} {a b c:PB}
def setB (P:Program)(m:Nat)(all:List Oper)(rest:PB)(k:Cont)(dst:Option Tmp)(e:Env)(d:List Deferred):Value→Heap→Prop:=fun v h=>zS P m all rest k (putE e dst v) d h
theorem setB_eq {v:Value}:setB P m all rest k dst e d v h=zS P m all rest k (putE e dst v) d h:=eqi rfl
def stBl (P:Program)(m:Nat)(o:Option Oper)(all:List Oper)(rest:PB)(k:Cont)(e:Env)(d:List Deferred)(h:Heap):Prop:=
  match o with
  | some o=>zN o.guard all e (fun e=>ldB P m o.op e h (fun v h'=>setB P m all rest k o.dst e d v h')) (fun e=>zS P m all rest k (putE e o.dst undef) d h)
  | none=>False
def stBp (P:Program)(m:Nat)(o:Option Oper)(all:List Oper)(rest:PB)(k:Cont)(e:Env)(d:List Deferred)(h:Heap):Prop:=
  match o with
  | some o=>zN o.guard all e (fun e=>opPW P o.op e h (fun v h'=>setB P m all rest k o.dst e d v h')) (fun e=>zS P m all rest k (putE e o.dst undef) d h)
  | none=>False
theorem zqH:zS P m all .fin k e d h=k .normal e d h:=eqi rfl
theorem zqd:zS P m all (.load i rest) k e d h=stBl P m all[i]? all rest k e d h:=by simp only [zS,stBl,setB]
theorem zp0:zS P m all (.pure i rest) k e d h=stBp P m all[i]? all rest k e d h:=by simp only [zS,stBp,setB]
def gB (v:Value)(s:Tmp)(want:Bool)(F:Env→Prop)(all:List Oper)(P:Program)(m:Nat)(rest:PB)(k:Cont)(dst:Option Tmp)(e:Env)(d:List Deferred)(h:Heap):Prop:=
  zC v (fun b=>if b=want then F (e.set s (.bool b)) else zS P m all rest k (putE (e.set s (.bool b)) dst undef) d h) (zS P m all rest k (putE e dst undef) d h)
def gBo (s:Option Tmp)(want:Bool)(F:Env→Prop)(all:List Oper)(P:Program)(m:Nat)(rest:PB)(k:Cont)(dst:Option Tmp)(e:Env)(d:List Deferred)(h:Heap):Prop:=
  match s with | some s=>gB (e.getD s undef) s want F all P m rest k dst e d h | none=>zS P m all rest k (putE e dst undef) d h
theorem ldB_load {t:TypeId}{x:Operand}{K:Value→Heap→Prop}:ldB P m (.load t x) e h K=(oldP m (ev e x)∧zar P t (ev e x) h K):=eqi rfl
theorem oldP_ptr {b o:Nat}{s:_}:oldP m (.pointer (some ⟨b,o,s⟩))=(b<m):=eqi rfl
theorem zpU:stBl P m (some ⟨dst,op,ty,pos,after,none⟩) all rest k e d h=ldB P m op e h (setB P m all rest k dst e d):=by simp only [stBl,zN]
theorem zo8:stBp P m (some ⟨dst,op,ty,pos,after,none⟩) all rest k e d h=opPW P op e h (setB P m all rest k dst e d):=by simp only [stBp,zN]
theorem zpz {j:Nat}{want:Bool}:stBl P m (some ⟨dst,op,ty,pos,after,some (j,want)⟩) all rest k e d h=gBo (zaR all j) want (fun e=>ldB P m op e h (setB P m all rest k dst e d)) all P m rest k dst e d h:=by
  simp only [stBl,zN,gBo]; cases zaR all j <;> rfl
theorem zpO {j:Nat}{want:Bool}:stBp P m (some ⟨dst,op,ty,pos,after,some (j,want)⟩) all rest k e d h=gBo (zaR all j) want (fun e=>opPW P op e h (setB P m all rest k dst e d)) all P m rest k dst e d h:=by
  simp only [stBp,zN,gBo]; cases zaR all j <;> rfl
theorem gBo_some {s:Tmp}{want:Bool}{F:Env→Prop}:gBo (some s) want F all P m rest k dst e d h=gB (e.getD s undef) s want F all P m rest k dst e d h:=eqi rfl
theorem gB_tt {s:Tmp}{F:Env→Prop}:gB (.bool true) s true F all P m rest k dst e d h=F (e.set s (.bool true)):=by simp [gB,zC]
theorem gB_ff {s:Tmp}{F:Env→Prop}:gB (.bool false) s false F all P m rest k dst e d h=F (e.set s (.bool false)):=by simp [gB,zC]
theorem gB_tf {s:Tmp}{F:Env→Prop}:gB (.bool true) s false F all P m rest k dst e d h=zS P m all rest k (putE (e.set s (.bool true)) dst undef) d h:=by simp [gB,zC]
theorem gB_ft {s:Tmp}{F:Env→Prop}:gB (.bool false) s true F all P m rest k dst e d h=zS P m all rest k (putE (e.set s (.bool false)) dst undef) d h:=by simp [gB,zC]
theorem gB_undef {s:Tmp}{w:Bool}{vs:Array Value}{F:Env→Prop}:gB (.tuple vs) s w F all P m rest k dst e d h=zS P m all rest k (putE e dst undef) d h:=by simp [gB,zC]
theorem zcY (H:stO P all all[i]? e h (fun e h''=>RB m h h''∧zS P m all rest k e d h'')):zS P m all (.keep i rest) k e d h:=H
theorem zo0 (A:stO P all all[x]? e h (fun e h''=>RB m h h''∧zS P m all a k e d h''))(B:stO P all all[y]? e h (fun e h''=>RB m h h''∧zS P m all b k e d h'')):zS P m all (.fork x y a b) k e d h:=⟨A,B⟩
set_option linter.defProp false
def zbT:=And.intro (And.intro (And.intro @zqH (And.intro @zqd @zp0)) (And.intro (And.intro @zpU @zo8) (And.intro @zpz @zpO)))
  (And.intro (And.intro (And.intro @gBo_some @setB_eq) (And.intro @ldB_load @oldP_ptr)) (And.intro (And.intro @gB_tt @gB_ff) (And.intro @gB_tf (And.intro @gB_ft @gB_undef))))
end zbT
end Go.Eng
end
section
namespace Go.Proofs.YtepaekbjoombpaaGreatDoor
open Go Go.Proofs Go.Eng Go.Run Tab
set_option maxRecDepth 100000
set_option linter.unusedSimpArgs false
set_option linter.unusedVariables false
set_option linter.defProp false
set_option maxHeartbeats 4000000
def fS (L:Nat→Int)(s i:Nat):Int:=if s.testBit i then L i else 0
def valS (L:Nat→Int)(s:Nat)(l:List Nat):Option Value:=if l.any (fun i=>s.testBit i) then some (.int .i64 (LS.lsum (fS L s) l)) else none
theorem zkE {L:Nat→Int}{s:Nat}:∀ {l:List Nat},l.any (fun i=>s.testBit i)=false→LS.lsum (fS L s) l=0
  | [],_=>rfl
  | x::l,h=>by
    rw [List.any_cons,Bool.or_eq_false_iff] at h
    rw [LS.lsum,zkE h.2,fS,h.1]
    rfl
theorem valS_get {L:Nat→Int}{s:Nat}{l:List Nat}:(valS L s l).getD (.int .i64 0)=.int .i64 (LS.lsum (fS L s) l):=by
  unfold valS
  split
  · rfl
  · rename_i h
    rw [zkE (by simpa using h)]
    rfl
theorem valS_yes {L:Nat→Int}{s i:Nat}{l:List Nat}(h:s.testBit i=true):valS L s (l++[i])=some (.int .i64 (LS.lsum (fS L s) l+L i)):=by
  unfold valS
  rw [if_pos (by simp [h]),LS.zbN]
  congr 2
  simp [LS.lsum,fS,h]
theorem valS_no {L:Nat→Int}{s i:Nat}{l:List Nat}(h:s.testBit i=false):valS L s (l++[i])=valS L s l:=by
  unfold valS
  rw [LS.zbN,List.any_append]
  simp [LS.lsum,fS,h]
structure EvI (L:Nat→Int)(o:List Nat)(m j:Nat)(es:List (Nat × Value × Nat)):Prop where
  nd:(es.map (·.1)).Nodup
  get:∀ s,getA s es=if s<m then valS L s o else if s=m then valS L s (o.take j) else none
theorem EvI.start {L:Nat→Int}{o:List Nat}:EvI L o 0 0 []:=⟨by simp,fun s=>by
  rw [if_neg (by omega)]
  split <;> rfl⟩
theorem EvI.next {L:Nat→Int}{o:List Nat}{m:Nat}{es:List (Nat × Value × Nat)}(E:EvI L o m o.length es):EvI L o (m+1) 0 es:=⟨E.nd,fun s=>by
  rw [E.get,List.take_zero,List.take_length]
  by_cases h1:s<m
  · rw [if_pos h1,if_pos (by omega)]
  · rw [if_neg h1]
    by_cases h2:s=m
    · subst h2; rw [if_pos rfl,if_pos (by omega)]
    · rw [if_neg h2,if_neg (by omega)]
      split <;> rfl⟩
theorem EvI.skip {L:Nat→Int}{o:List Nat}{m j:Nat}{es:List (Nat × Value × Nat)}(E:EvI L o m j es)(hj:j<o.length)(h:m.testBit (o.getD j 0)=false):EvI L o m (j+1) es:=⟨E.nd,fun s=>by
  rw [E.get]
  by_cases h2:s=m
  · subst h2
    have e:o.take (j+1)=o.take j++[o.getD j 0]:=by
      rw [List.take_add_one,List.getElem?_eq_getElem hj,List.getD_eq_getElem?_getD,List.getElem?_eq_getElem hj]; rfl
    rw [e,valS_no h]
  · rw [if_neg h2,if_neg h2]⟩
theorem EvI.add {L:Nat→Int}{o:List Nat}{m j c1 c2:Nat}{v:Value}{es:List (Nat × Value × Nat)}(E:EvI L o m j es)(hj:j<o.length)(h:m.testBit (o.getD j 0)=true):EvI L o m (j+1) (putA m (.int .i64 (LS.lsum (fS L m) (o.take j)+L (o.getD j 0))) c2 (putA m v c1 es)):=⟨zeJ (zeJ E.nd),fun s=>by
  rw [zdd,zdd,E.get]
  have e:o.take (j+1)=o.take j++[o.getD j 0]:=by
    rw [List.take_add_one,List.getElem?_eq_getElem hj,List.getD_eq_getElem?_getD,List.getElem?_eq_getElem hj]; rfl
  by_cases h2:s=m
  · subst h2
    rw [if_pos rfl,if_neg (by omega),if_pos rfl,e,valS_yes h]
  · rw [if_neg h2,if_neg h2,if_neg h2,if_neg h2]⟩
theorem zjj {F:Nat→Int}{B:Int}(hB:0≤B):∀ {l:List Nat},(∀ i∈l,-B≤F i∧F i≤B)→-(B*(l.length:Int))≤LS.lsum F l∧LS.lsum F l≤B*(l.length:Int)
  | [],_=>by simp [LS.lsum]
  | x::l,h=>by
    have h1:=h x List.mem_cons_self
    have h2:=zjj hB (l:=l) fun i hi=>h i (List.mem_cons_of_mem _ hi)
    rw [LS.lsum,List.length_cons]
    have e:B*((l.length+1:Nat):Int)=B*(l.length:Int)+B:=by
      rw [Int.natCast_add,Int.mul_add]; simp
    rw [e]
    omega
theorem zhy {F:Nat→Int}{p:Nat→Bool}:∀ {l:List Nat},(∀ i∈l,p i=false→F i=0)→LS.lsum F (l.filter p)=LS.lsum F l
  | [],_=>rfl
  | x::l,h=>by
    have ih:=zhy (F:=F) (p:=p) (l:=l) fun i hi=>h i (List.mem_cons_of_mem _ hi)
    cases hp:p x with
    | true=>rw [List.filter_cons_of_pos hp,LS.lsum,LS.lsum,ih]
    | false=>rw [List.filter_cons_of_neg (by rw [hp]; decide),ih,LS.lsum,h x List.mem_cons_self hp]; omega
theorem zf8 {a:Nat}:∀ {es:List (Nat × Value × Nat)},(es.map (·.1)).Nodup→∀ {x},x∈delA a es↔x∈es∧x.1≠a
  | [],_,x=>by simp [delA]
  | y::es,hn,x=>by
    rw [List.map_cons,List.nodup_cons] at hn
    have ih:=zf8 (a:=a) hn.2 (x:=x)
    by_cases hy:a=y.1
    · simp only [delA,hy,if_true,List.mem_cons]
      constructor
      · intro h
        exact⟨.inr h,fun e=>hn.1 (by rw [← e]; exact List.mem_map.2 ⟨x,h,rfl⟩)⟩
      · rintro⟨rfl | h,hne⟩
        · exact absurd rfl hne
        · exact h
    · simp only [delA,hy,if_false,List.mem_cons,ih]
      constructor
      · rintro (rfl | ⟨h1,h2⟩)
        · exact⟨.inl rfl,fun e=>hy e.symm⟩
        · exact⟨.inr h1,h2⟩
      · rintro⟨rfl | h,hne⟩
        · exact .inl rfl
        · exact .inr ⟨h,hne⟩
theorem sm_amt {A:Nat}{e:En}{day:Int}(hf:0≤e.f∧e.f<A)(ht:0≤e.t∧e.t<A):LS.sm (fun i=>amt day (i:Int) e) A=0:=by
  by_cases hd:e.d≤day
  · have e1:∀ i,i<A→amt day (i:Int) e=(if i=e.t.toNat then e.a else 0)+(if i=e.f.toNat then -e.a else 0):=fun i _=>by
      have q1:(e.t=(i:Int))=(i=e.t.toNat):=propext (by omega)
      have q2:(e.f=(i:Int))=(i=e.f.toNat):=propext (by omega)
      unfold amt
      rw [if_pos hd]
      simp only [q1,q2]
      split <;> split <;> omega
    rw [LS.zbu e1,LS.ze0,LS.zf6,LS.zf6,if_pos (by omega),if_pos (by omega)]
    omega
  · exact LS.zjM fun i _=>by unfold amt; rw [if_neg hd]
theorem sm_bal {A:Nat}{day:Int}:∀ {es:List En},(∀ e∈es,(0≤e.f∧e.f<A)∧0≤e.t∧e.t<A)→LS.sm (fun i=>balA es day (i:Int)) A=0
  | [],_=>LS.zjM fun i _=>rfl
  | e::es,h=>by
    have ih:=sm_bal (day:=day) (es:=es) fun x hx=>h x (List.mem_cons_of_mem _ hx)
    have h1:=h e List.mem_cons_self
    rw [LS.zbu (g:=fun i=>amt day (i:Int) e+balA es day (i:Int)) fun i _=>zb0 e es day i,LS.ze0,ih,sm_amt h1.1 h1.2]
    rfl
theorem zeb {k:Nat}{es:List En}{day:Int}{i:Nat}(hok:∀ e∈es,okE k e)(hi:k≤i):balA es day (i:Int)=0:=by
  induction es with
  | nil=>rfl
  | cons e es ih=>
    have h1:=hok e List.mem_cons_self
    rw [zb0,ih fun x hx=>hok x (List.mem_cons_of_mem _ hx)]
    unfold amt
    have a1:=h1.2.1
    have a2:=h1.2.2.1
    rw [if_neg (show ¬ e.t=(i:Int) by omega),if_neg (show ¬ e.f=(i:Int) by omega)]
    split <;> rfl
theorem zero_fS {l:Nat→Int}{xs:List Int}(hl:l=fun i=>xs.getD i 0){s:Nat}:LS.zero l 8 s↔LS.lsum (fS l s) (opL8 xs 8)=0:=by
  have e:LS.lsum (fS l s) (opL8 xs 8)=LS.lsum (fS l s) (List.range 8):=zhy fun i _ hp=>by
    have h0:xs.getD i 0=0:=by simpa using hp
    unfold fS
    rw [hl]
    show (if s.testBit i then xs.getD i 0 else 0)=0
    rw [h0]
    split <;> rfl
  rw [e,← LS.zg2]
  rfl
theorem zbD {xs:List Int}{i:Nat}:i∈opL8 xs 8↔i<8∧xs.getD i 0≠0:=by
  unfold opL8
  rw [List.mem_filter,List.mem_range]
  simp
theorem even_iff {es:List En}{day:Int}{k w m:Nat}{xs:List Int}{eZ:List (Nat × Value × Nat)}(hxs:xs=bals 8 es day)(hok:∀ e∈es,okE k e)(hm:m=2 ^ k)
    (hbits:∀ i,w.testBit i=true↔i∈opL8 xs 8)
    (hZ:∀ s,(getA s eZ).isSome=true↔s<m∧(opL8 xs 8).any (fun i=>s.testBit i)=true∧LS.lsum (fS (fun i=>xs.getD i 0) s) (opL8 xs 8)=0)
    (s:Nat) (h0:s≠0) (hw:s&&&w=s):(getA s eZ).isSome=true↔LS.zero (fun i=>xs.getD i 0) 8 s:=by
  have hb:∀ i,s.testBit i=true→i∈opL8 xs 8:=fun i hi=>by
    rw [← hw,Nat.testBit_and,Bool.and_eq_true] at hi
    exact (hbits i).1 hi.2
  have hk:∀ i,s.testBit i=true→i<k:=fun i hi=>by
    obtain⟨h1,h2⟩:=zbD.1 (hb i hi)
    refine Nat.lt_of_not_le fun hle=>h2 ?_
    rw [hxs,zL es day h1]
    exact zeb hok hle
  rw [hZ,← zero_fS rfl]
  refine⟨fun h=>h.2.2,fun h=>⟨?_,?_,h⟩⟩
  · rw [hm]
    refine Nat.lt_pow_two_of_testBit s fun i hi=>?_
    cases hc:s.testBit i with
    | false=>rfl
    | true=>have:=hk i hc; omega
  · obtain⟨i,hi⟩:=Nat.exists_testBit_of_ne_zero h0
    exact List.any_eq_true.2 ⟨i,hb i hi,hi⟩
theorem zmT {es:List En}{day:Int}{k w:Nat}{xs:List Int}(hxs:xs=bals 8 es day)(hok:∀ e∈es,okE k e)(hk:k≤8)
    (hbits:∀ i,w.testBit i=true↔i∈opL8 xs 8):LS.zero (fun i=>xs.getD i 0) 8 w:=by
  have e:∀ i,i<8→(if w.testBit i then xs.getD i 0 else 0)=balA es day (i:Int):=fun i hi=>by
    split
    · rw [hxs,zL es day hi]
    · rename_i h
      have h1:¬ (i<8∧xs.getD i 0≠0):=fun hh=>h ((hbits i).2 (zbD.2 hh))
      have h2:xs.getD i 0=0:=by
        refine Classical.byContradiction fun hh=>h1 ⟨hi,hh⟩
      rw [hxs,zL es day hi] at h2
      exact h2.symm
  unfold LS.zero
  rw [LS.zbu e]
  exact sm_bal fun x hx=>by
    have h1:=hok x hx
    have a1:=h1.2.1
    have a2:=h1.2.2.1
    omega
theorem zoM {es:List En}{day:Int}{w:Nat}{xs:List Int}(hxs:xs=bals 8 es day)(hbits:∀ i,w.testBit i=true↔i∈opL8 xs 8):w=LS.msk (LS.opn (fun i=>xs.getD i 0)) 8:=by
  apply Nat.eq_of_testBit_eq
  intro i
  rw [LS.zaU]
  have h1:=(hbits i).trans zbD
  unfold LS.opn
  cases hc:w.testBit i with
  | true=>
    obtain⟨h2,h3⟩:=h1.1 hc
    show true=(decide (i<8)&&!decide (xs.getD i 0=0))
    rw [decide_eq_true h2,decide_eq_false h3]
    rfl
  | false=>
    have h2:¬ (i<8∧xs.getD i 0≠0):=fun hh=>by rw [h1.2 hh] at hc; cases hc
    show false=(decide (i<8)&&!decide (xs.getD i 0=0))
    by_cases h3:i<8
    · have h4:xs.getD i 0=0:=Classical.byContradiction fun hh=>h2 ⟨h3,hh⟩
      rw [decide_eq_true h4]
      simp
    · rw [decide_eq_false h3]
      rfl
end Go.Proofs.YtepaekbjoombpaaGreatDoor
end
section
namespace Go.Proofs.YtepaekbjoombpaaGreatDoor
open Go Go.Proofs Go.Eng Go.Run Tab
set_option maxRecDepth 100000
set_option linter.unusedSimpArgs false
set_option linter.unusedVariables false
set_option linter.defProp false
set_option maxHeartbeats 4000000
set_option linter.defProp false
def zjE:=(And.intro @Tryz.underlying3 (And.intro @Tryz.underlying73 @Tryz.underlying196))
def zj2:=(And.intro (And.intro @zcq @by40) (And.intro @zbW (And.intro @sz40 @Tryz.underlying73)))
def zor:=(And.intro (And.intro @zcq @by40) (And.intro @zbW (And.intro @sz40 @Tryz.underlying73)))
theorem app73 {h:Eng.Heap}{er:Env}{ty:TypeId}{m0:Nat}{x y:Operand}{a b:Option Addr}{len cap m c:Nat}{T U:List Hd}{K:Value→Eng.Heap→Prop}(hx:ev er x=.slice a len cap)(hy:ev er y=.slice b m c)(O:OwnV m0 h 40 1 a len cap (hdsV T))(h0h:m0≤h.size)(I:Row h b (hdsV U))(hm:m=U.length)(hb:len+m≤1000)
    (H:∀ a' cap' h',OwnV m0 h' 40 1 a' (len+m) cap' (hdsV (T++U))→App h h' a a'→K (.slice a' (len+m) cap') h'):zg Tryz.prog (.call ⟨.builtin .append,#[x,y],#[73,73]⟩) ty er h K:=
  zcO Tryz.underlying73 Tryz.underlying73 zbW sz40 zero40 (by rfl) hx hy O h0h I (by rw [zF]; omega) (fun u hu=>by
    obtain⟨x,_,rfl⟩:=List.mem_map.1 hu
    rfl) (by omega) (by rw [by40]; omega) fun a' cap' h' O' A'=>H a' cap' h' (by
      have e:hdsV T++hdsV U=hdsV (T++U):=by simp [hdsV]
      rw [← e]; exact O') A'
theorem zhv {m m2:Nat}{h h':Eng.Heap}{el el2:TypeId}{s2:Nat}{a x x':Option Addr}{len cap len2 cap2:Nat}{vs:List Int}{ws:List Value}(O:OwnI m h el a len cap vs)(A:App h h' x x')(P:OwnV m2 h el2 s2 x len2 cap2 ws)(hne:el≠el2):OwnI m h' el a len cap vs:=
  O.keep fun p hp=>A.old _ (O.lt hp).1 fun q hq e=>by
    rcases O.ok with⟨h1,_⟩ | ⟨g,cur,h1,h2,h3,_⟩
    · rw [h1] at hp; cases hp
    rcases P.ok with⟨k1,_⟩ | ⟨g',cur',k1,k2,k3,_⟩
    · rw [k1] at hq; cases hq
    rw [h1] at hp
    rw [k1] at hq
    cases hp
    cases hq
    have e:g'=g:=e
    rw [e,h3] at k3
    cases k3
    exact hne rfl
def acc (p k:Nat):List Nat:=(List.range k).filter fun i=>p.testBit i
theorem zcw (p k:Nat):acc p (k+1)=acc p k++if p.testBit k then [k] else []:=by
  unfold acc
  rw [List.range_succ,List.filter_append]
  congr 1
  by_cases h:p.testBit k=true
  · rw [if_pos h,List.filter_cons_of_pos h]; rfl
  · rw [if_neg h,List.filter_cons_of_neg h]; rfl
theorem ze1 (p k:Nat):(acc p k).length≤k:=by
  unfold acc
  have:=List.length_filter_le (fun i=>p.testBit i) (List.range k)
  rw [List.length_range] at this
  exact this
theorem za4 {p k i:Nat}:i∈acc p k↔i<k∧p.testBit i=true:=by
  unfold acc
  rw [List.mem_filter,List.mem_range]
theorem zli {z:Nat→Prop}:∀ {ps:List Nat} {s p:Nat},LS.Pt z s ps→p∈ps→p&&&s=p
  | q::ps,s,p,h,hp=>by
    obtain⟨r,h1,h2,h3,h4,h5⟩:=h
    rcases List.mem_cons.1 hp with rfl | hp
    · apply Nat.eq_of_testBit_eq
      intro j
      rw [h1,Nat.testBit_and,Nat.testBit_or]
      cases p.testBit j <;> simp
    · have ih:=zli h5 hp
      apply Nat.eq_of_testBit_eq
      intro j
      have h6:=congrArg (fun x=>x.testBit j) ih
      simp only [Nat.testBit_and] at h6
      rw [h1,Nat.testBit_and,Nat.testBit_or]
      cases h7:p.testBit j
      · simp
      · rw [h7,Bool.true_and] at h6
        rw [h6]; simp
theorem zjc {z:Nat→Prop}:∀ {ps:List Nat} {s p:Nat},LS.Pt z s ps→p∈ps→p≠0∧z p
  | q::ps,s,p,h,hp=>by
    obtain⟨r,h1,h2,h3,h4,h5⟩:=h
    rcases List.mem_cons.1 hp with rfl | hp
    · exact⟨h4,h3⟩
    · exact zjc h5 hp
def Bld (k:Nat)(h:Eng.Heap)(G:List (Hd × Nat)):Prop:=∀ g∈G,g.1.2.1=(acc g.2 k).length∧OwnI 0 h 3 g.1.1 g.1.2.1 g.1.2.2 (nz (acc g.2 k))
theorem Bld.ext {k:Nat}{h h':Eng.Heap}{G:List (Hd × Nat)}(B:Bld k h G)(x:Ext h h'):Bld k h' G:=fun g hg=>⟨(B g hg).1,(B g hg).2.ext x⟩
theorem zq5 {α β:Type}{f:α→β}{T S:List β}(p:T.Perm S):∀ {G:List α},G.map f=S→∃ G':List α,G'.Perm G∧G'.map f=T:=by
  induction p with
  | nil=>intro G h; exact⟨G,.refl _,h⟩
  | cons x p ih=>
    intro G h
    match G,h with
    | g::G,h=>
      rw [List.map_cons] at h
      injection h with h1 h2
      obtain⟨G',p',e⟩:=ih h2
      exact⟨g::G',p'.cons g,by rw [List.map_cons,h1,e]⟩
  | swap x y l=>
    intro G h
    match G,h with
    | g::g'::G,h=>
      rw [List.map_cons,List.map_cons] at h
      injection h with h1 h2
      injection h2 with h2 h3
      exact⟨g'::g::G,.swap _ _ _,by rw [List.map_cons,List.map_cons,h1,h2,h3]⟩
  | trans p q ihp ihq=>
    intro G h
    obtain⟨G1,p1,e1⟩:=ihq h
    obtain⟨G2,p2,e2⟩:=ihp e1
    exact⟨G2,p2.trans p1,e2⟩
theorem zjW {p k:Nat}(h0:p≠0)(hk:∀ i,p.testBit i=true→i<k):0<(acc p k).length:=by
  obtain⟨i,hi⟩:=Nat.exists_testBit_of_ne_zero h0
  exact List.length_pos_of_mem (za4.2 ⟨hk i hi,hi⟩)
theorem acc_or {p r:Nat}(hd:p&&&r=0):∀ n,(acc (p|||r) n).length=(acc p n).length+(acc r n).length
  | 0=>rfl
  | n+1=>by
    have ih:=acc_or hd n
    have h1:=LS.zbc hd n
    rw [zcw,zcw,zcw,List.length_append,List.length_append,List.length_append,ih,Nat.testBit_or]
    cases h2:p.testBit n <;> cases h3:r.testBit n
    · simp
    · simp; omega
    · simp; omega
    · exact absurd ⟨h2,h3⟩ h1
theorem zii {z:Nat→Prop}{n:Nat}:∀ {ps:List Nat} {s:Nat},LS.Pt z s ps→(∀ i,s.testBit i=true→i<n)→ps.length≤(acc s n).length
  | [],s,_,_=>Nat.zero_le _
  | q::ps,s,h,hb=>by
    obtain⟨r,h1,h2,h3,h4,h5⟩:=h
    have ih:=zii (n:=n) h5 fun i hi=>hb i (by rw [h1,Nat.testBit_or,hi,Bool.or_true])
    have hq:=zjW (k:=n) h4 fun i hi=>hb i (by rw [h1,Nat.testBit_or,hi,Bool.true_or])
    rw [h1,acc_or h2,List.length_cons]
    omega
theorem zhC {k gb:Nat}{h h':Eng.Heap}{cur:Array Value}{m:Nat}{a:Option Addr}{len cap:Nat}{xs:List Int}(O:OwnI m h 3 a len cap xs)(hb:h[gb]?=some (.cells cur 40 (0,0)))(u:Upd h h' gb):OwnI m h' 3 a len cap xs:=
  O.keep fun p hp=>u.old _ fun e=>by
    rcases O.ok with⟨h1,_⟩ | ⟨g,c,h1,h2,h3,_⟩
    · rw [h1] at hp; cases hp
    rw [h1] at hp
    cases hp
    have e:g=gb:=e
    rw [e,hb] at h3
    cases h3
theorem Bld.upd {k gb:Nat}{h h':Eng.Heap}{cur:Array Value}{G:List (Hd × Nat)}(B:Bld k h G)(hb:h[gb]?=some (.cells cur 40 (0,0)))(u:Upd h h' gb):Bld k h' G:=fun g hg=>⟨(B g hg).1,zhC (k:=k) (B g hg).2 hb u⟩
theorem zoH {k gb:Nat}{h:Eng.Heap}{cur:Array Value}{G:List (Hd × Nat)}{g:Hd × Nat}(B:Bld k h G)(hb:h[gb]?=some (.cells cur 40 (0,0)))(hg:g∈G)(hp:0<(acc g.2 k).length){h':Eng.Heap}(u:Upd h h' gb):zT h' (eltP g.1.1 0)=some (.int .i64 ((acc g.2 k).getD 0 0:Nat)):=by
  have O:=zhC (k:=k) (B g hg).2 hb u
  have c:=O.ints.cell (j:=0) (by rw [zaf]; exact hp)
  rw [zb9] at c
  exact c
theorem bld_some {k:Nat}{h:Eng.Heap}{G:List (Hd × Nat)}{g:Hd × Nat}(B:Bld k h G)(hg:g∈G)(hp:0<(acc g.2 k).length):0<g.1.2.1∧g.1.1.isSome=true:=by
  have h1:=B g hg
  rw [← h1.1] at hp
  refine⟨hp,?_⟩
  rcases h1.2.ok with⟨_,h2,_⟩ | ⟨g,c,h2,_⟩
  · omega
  · rw [h2]; rfl
def keyH (h:Eng.Heap)(u:Hd):Int:=match zT h (eltP u.1 0) with | some (.int _ x)=>x | _=>0
def GrpP (k:Nat)(l:Nat→Int)(h:Eng.Heap)(v:Value)(h':Eng.Heap):Prop:=(∃ a n c G,v=.slice a n c∧G.length=n∧OwnV h.size h' 40 1 a n c (hdsV (G.map (·.1)))∧Bld k h' G∧G.Pairwise (fun x y=>(acc x.2 k).getD 0 0≤(acc y.2 k).getD 0 0)∧(∃ ps,(G.map (·.2)).Perm ps∧LS.Pt (LS.zero l 8) (LS.msk (LS.opn l) 8) ps)∧LS.Most (LS.zero l 8) (LS.msk (LS.opn l) 8) n)∧Ext h h'
theorem zoY (h:Eng.Heap):zb Tryz.prog 184 #[.slice none 0 0,.int .i64 0,.int .i64 0,.func (.func 129) #[] #[]] h (fun v h'=>h'=h):=by
  (refine ze Tryz.func184 rfl bod184 ?_; simp only [Tryz.ntmps184,Tryz.results184,za,zh,splice,Value.cells,Value.oneCell',Nat.reduceAdd,Nat.reduceSub,Nat.reduceMul,Nat.reduceLeDiff,Int.reduceEq,Nat.reduceEqDiff,zor])
  refine⟨by rw [zf]; omega,?_⟩
  refine zo [8,9,12,13,14,15,16,17,18,19,20,21,22,23,24,25,26,27,28,29,30,31,32,33,34,35,36,37,38,39,40,41,42,43,44,45,46,47,48,49,50,51,52] (fun e h'=>h'=h∧e 8=.int .i64 1) (fun _ _=>0) ⟨rfl,rfl⟩ ?_
  rintro e h' ⟨rfl,he4⟩
  simp only [he4,show ¬ (1:Int)<0 by omega,decide_false,za,Value.cells,Value.oneCell',Nat.reduceAdd,Nat.reduceSub,Nat.reduceMul,Nat.reduceLeDiff,Int.reduceEq,Nat.reduceEqDiff,zor]
theorem zpM (rr:Int)(h:Eng.Heap):zb Tryz.prog 160 #[.slice none 0 0,.int .i64 0,.int .i64 0,.int .i64 rr,.func (.func 129) #[] #[]] h (fun v h'=>h'=h):=by
  (refine ze Tryz.func160 rfl bod160 ?_; simp only [Tryz.ntmps160,Tryz.results160,za,zh,splice,Value.cells,Value.oneCell',Nat.reduceAdd,Nat.reduceSub,Nat.reduceMul,Nat.reduceLeDiff,Int.reduceEq,Nat.reduceEqDiff,zj2])
  refine zo [1,2,3,10,11,12,13,14,15,16,17,18,19,20,21,22,23,24,25,26,27,28,29,30,31,32,33,34,35,36,37,38,39,40,41,42,43,44,45,46,47,48,49,50,51,52,53,54,55,56,57,58,59,60,61,62,63,64,65,66,67,68,69,70,71,72,73,74,75,76,77,78,79,80,81,82,83,84,85,86,87,88,89,90,91,92,93,94,95,96,97,98,99,100,101,102,103,104,105,106,107,108,109,110,111,112,113,114,115,116,117,118,119,120,121,122,123,124,125,126,127,128,129,130,131,132,133,134,135,136,137,138,139,140,141,142,143,144,145,146,147] (fun e h'=>h'=h∧e 1=.int .i64 0∧e 2=.int .i64 0∧e 3=.int .i64 rr) (fun _ _=>0) ⟨rfl,rfl,rfl,rfl⟩ ?_
  rintro e h' ⟨rfl,he1,he2,he3⟩
  have t1:(0:Int) - 0≤12:=by omega
  simp only [he1,he2,he3,t1,decide_true,za,Value.cells,Value.oneCell',Nat.reduceAdd,Nat.reduceSub,Nat.reduceMul,Nat.reduceLeDiff,Int.reduceEq,Nat.reduceEqDiff,zj2]
  refine⟨by rw [zf]; omega,?_⟩
  refine zb.mono (zoY h') ?_
  rintro v h1 hv
  simp only [za,Value.cells,Value.oneCell',Nat.reduceAdd,Nat.reduceSub,Nat.reduceMul,Nat.reduceLeDiff,Int.reduceEq,Nat.reduceEqDiff,zj2]
  exact hv
theorem zjk (h:Eng.Heap):zb Tryz.prog 128 #[.slice none 0 0,.func (.func 129) #[] #[]] h (fun v h'=>h'=h):=by
  (refine ze Tryz.func128 rfl bod128 ?_; simp only [Tryz.ntmps128,Tryz.results128,za,zh,splice,Value.cells,Value.oneCell',Nat.reduceAdd,Nat.reduceSub,Nat.reduceMul,Nat.reduceLeDiff,Int.reduceEq,Nat.reduceEqDiff,zjE])
  refine⟨by rw [zoc]; omega,?_⟩
  refine zb.mono (len161 0 (by omega) h) ?_
  rintro v h1 ⟨⟨r,rfl⟩,rfl⟩
  simp only [za,Value.cells,Value.oneCell',Nat.reduceAdd,Nat.reduceSub,Nat.reduceMul,Nat.reduceLeDiff,Int.reduceEq,Nat.reduceEqDiff,zjE]
  refine zb.mono (zpM r h1) ?_
  rintro v h2 hv
  simp only [za,Value.cells,Value.oneCell',Nat.reduceAdd,Nat.reduceSub,Nat.reduceMul,Nat.reduceLeDiff,Int.reduceEq,Nat.reduceEqDiff,zjE]
  exact hv
end Go.Proofs.YtepaekbjoombpaaGreatDoor
end
section
namespace Go.Proofs.YtepaekbjoombpaaGreatDoor
open Go Go.Proofs Go.Eng Go.Run Tab
set_option maxRecDepth 100000
set_option linter.unusedSimpArgs false
set_option linter.unusedVariables false
set_option linter.defProp false
set_option maxHeartbeats 4000000
set_option linter.defProp false
def zD:=(And.intro (And.intro (And.intro (And.intro @zeU (And.intro @agg162 @agg2)) (And.intro (And.intro @agg3 @zik) (And.intro @by3 @by40))) (And.intro (And.intro (And.intro @zoO @zjP) (And.intro @zel @zmJ)) (And.intro (And.intro @ze7 @zgR) (And.intro @inf2 @inf3)))) (And.intro (And.intro (And.intro (And.intro @zbW @okf162) (And.intro @zhb @zjb)) (And.intro (And.intro @sz2 @sz3) (And.intro @sz40 @zdZ))) (And.intro (And.intro (And.intro @zhp @zbH) (And.intro @zero40 @Tryz.underlying40)) (And.intro (And.intro @Tryz.underlying73 @Tryz.underlying104) (And.intro @Tryz.underlying160 @Tryz.underlying163)))))
theorem zlN {P:Program}{u:TypeId}{x k:Operand}{ty:TypeId}{e:Eng.Env}{h:Eng.Heap}{K:Value→Eng.Heap→Prop}:opW P (.mapEntry u x k) ty e h K=zg P (.mapEntry u x k) ty e h K:=by
  unfold opW pvW alcW
  rfl
theorem zoI {P:Program}{u:TypeId}{x k y:Operand}{ty:TypeId}{e:Eng.Env}{h:Eng.Heap}{K:Value→Eng.Heap→Prop}:opW P (.entryStore u x k y) ty e h K=zg P (.entryStore u x k y) ty e h K:=by
  unfold opW pvW alcW
  rfl
theorem zh6 (g0 k:Nat)(cl:Int)(a:Option Addr)(n c:Nat)(es:List En)(day:Int)(h:Eng.Heap)(hb0:h[g0]?=some (.cells #[.int .i64 k,.int .i64 cl,.slice a n c] 150))(hr:Row h a (ensV es))(hn:n=es.length)(hl:n≤20)(hok:∀ e∈es,okE k e)(hk:k≤8)(hne:∀ e∈es,e.f≠e.t) :
    zb Tryz.prog 98 #[.pointer (some ⟨g0,0,none⟩),.int .i64 day] h (GrpP k (fun i=>(bals 8 es day).getD i 0) h):=by
  (refine ze Tryz.func98 rfl bod98 ?_; simp only [Tryz.ntmps98,Tryz.results98,za,zh,splice,Value.cells,Value.oneCell',Nat.reduceAdd,Nat.reduceSub,Nat.reduceMul,Nat.reduceLeDiff,Int.reduceEq,Nat.reduceEqDiff,zD])
  refine zb.mono (zcQ g0 k cl a n c es day h hb0 hr hn hl hok (by omega) hne) ?_
  rintro v h1 ⟨rfl,x1⟩
  obtain⟨xs,hxs⟩:∃ xs,xs=bals 8 es day:=⟨_,rfl⟩
  have hxl:xs.length=8:=by rw [hxs,zm]
  rw [← hxs]
  obtain⟨b0,b1,b2,b3,b4,b5,b6,b7,h8⟩:∃ b0 b1 b2 b3 b4 b5 b6 b7:Int,xs=[b0,b1,b2,b3,b4,b5,b6,b7]:=by
    match xs,hxl with
    | [b0,b1,b2,b3,b4,b5,b6,b7],_=>exact⟨b0,b1,b2,b3,b4,b5,b6,b7,rfl⟩
  have h9:(ints xs).toArray=#[.int .i64 b0,.int .i64 b1,.int .i64 b2,.int .i64 b3,.int .i64 b4,.int .i64 b5,.int .i64 b6,.int .i64 b7]:=by rw [h8]; rfl
  rw [h9]
  simp only [za,zh,splice,Value.cells,Value.oneCell',Nat.reduceAdd,Nat.reduceSub,Nat.reduceMul,Nat.reduceLeDiff,Int.reduceEq,Nat.reduceEqDiff,zD]
  rw [← h9]
  have q5:=zu (h:=h1) (o:=.cells (ints xs).toArray 104)
  have xq:Ext h1 (h1.push (.cells (ints xs).toArray 104)):=(Ext.refl h1).push _
  refine zb.mono (zlB xs hxl _) ?_
  rintro v h2 ⟨⟨aO,cO,rfl,OO⟩,x2⟩
  have y2:=(x1.trans xq).trans x2
  have hg2:=y2.get hb0
  obtain⟨o,ho⟩:∃ o,o=opL8 xs 8:=⟨_,rfl⟩
  rw [← ho] at OO ⊢
  have ho8:∀ i∈o,i<8:=fun i hi=>by
    rw [ho] at hi
    exact List.mem_range.1 (List.mem_filter.1 hi).1
  have hol:o.length≤8:=by rw [ho]; exact zbx xs 8
  have hN:2 ^ k≤256:=by
    have:2 ^ k≤2 ^ 8:=Nat.pow_le_pow_right (by decide) hk
    simpa using this
  have eN:(1:Int)*2 ^ k=((2 ^ k:Nat):Int):=by rw [Int.one_mul]; simp
  obtain⟨N,hNe⟩:∃ N,N=2 ^ k:=⟨_,rfl⟩
  rw [← hNe] at eN hN
  have q52:h2[h1.size]?=some (.cells (ints xs).toArray 104):=x2.get q5
  have xm:Ext h2 (h2.push (.map #[] 0)):=(Ext.refl h2).push _
  have hgm:=xm.get hg2
  simp only [hgm,eN,Int.toNat_natCast,za,Value.cells,Value.oneCell',Nat.reduceAdd,Nat.reduceSub,Nat.reduceMul,Nat.reduceLeDiff,Int.reduceEq,Nat.reduceEqDiff,zD]
  refine⟨by omega,by simp [IntKind.bits]; omega,by rw [zf]; omega,?_⟩
  have eb:=h2.size
  have heb1:h1.size<h2.size:=zt q52
  refine zo [8,9,11,34,35,36,37,38,39,40,41,42,43,44,45,46,47,48,49,50,51,52,53,54,55,56,57,58] (fun e h'=>Chg (h2.push (.map #[] 0)) h' h2.size∧∃ m:Nat,m≤N∧e 34=.int .i64 m∧∃ em cm,MapV kvG h' h2.size em cm∧EvI (fun i=>xs.getD i 0) o m 0 em) (fun e _=>match e 34 with | .int _ q=>N - q.toNat | _=>0) ⟨Chg.refl _ _,0,by omega,rfl,[],0,MapV.empty h2,EvI.start⟩ ?_
  rintro e3 h3 ⟨c3,m,hm,he3,em,cm,M3,E3⟩
  by_cases hmN:m<N
  · have hlt:(m:Int)<(N:Int):=by omega
    have meas:N - ((m:Int)+1).toNat<N - (m:Int).toNat:=by omega
    simp only [he3,hlt,decide_true,za,zh,splice,Value.cells,Value.oneCell',Nat.reduceAdd,Nat.reduceSub,Nat.reduceMul,Nat.reduceLeDiff,Int.reduceEq,Nat.reduceEqDiff,zD]
    have x3:Ext h3 (h3.push (.cells #[.int .i64 (m:Nat)] 162)):=(Ext.refl h3).push _
    have hs3:=c3.size
    rw [zaa] at hs3
    have qg:=zu (h:=h3) (o:=.cells #[.int .i64 (m:Nat)] 162)
    have I3:zJ (h3.push (.cells #[.int .i64 (m:Nat)] 162)) aO o.length (nz o):=((OO.ints.ext xm).chg (MapV.empty (kv:=kvG) h2).obj c3).ext x3
    have q3:(h3.push (.cells #[.int .i64 (m:Nat)] 162))[h1.size]?=some (.cells (ints xs).toArray 104):=x3.get (c3.get (xm.get q52) (by omega))
    refine zo [11,41,42,43,44,45,46,47,48,49,50,51,52,53,54,55,56,57] (fun e h'=>Chg (h3.push (.cells #[.int .i64 (m:Nat)] 162)) h' h2.size∧∃ j:Nat,j≤o.length∧e 41=.int .i64 j∧∃ em cm,MapV kvG h' h2.size em cm∧EvI (fun i=>xs.getD i 0) o m j em) (fun e _=>match e 41 with | .int _ q=>o.length - q.toNat | _=>0) ⟨Chg.refl _ _,0,by omega,rfl,em,cm,M3.ext x3,E3⟩ ?_
    rintro e4 h4 ⟨c4,j,hj,he4,em4,cm4,M4,E4⟩
    have hs4:=c4.size
    rw [zaa] at hs4
    by_cases hjo:j<o.length
    case neg=>
      obtain rfl:j=o.length:=by omega
      simp only [he3,he4,show ¬ ((o.length:Int)<(o.length:Int)) by omega,decide_false,za,Value.cells,Value.oneCell',Nat.reduceAdd,Nat.reduceSub,Nat.reduceMul,Nat.reduceLeDiff,Int.reduceEq,Nat.reduceEqDiff,zD]
      exact⟨by rw [zf]; omega,zi (by kernel_rfl) ⟨(c3.ext x3).trans c4,m+1,by omega,rfl,em4,cm4,M4,E4.next⟩ meas⟩
    have hltj:(j:Int)<(o.length:Int):=by omega
    have measj:o.length - ((j:Int)+1).toNat<o.length - (j:Int).toNat:=by omega
    obtain⟨i,hi⟩:∃ i,i=o.getD j 0:=⟨_,rfl⟩
    have hio:i∈o:=by rw [hi,List.getD_eq_getElem?_getD,List.getElem?_eq_getElem hjo]; exact List.getElem_mem hjo
    have hi8:=ho8 i hio
    have I4:=I3.chg (M3.ext x3).obj c4
    have ci:=I4.cell (j:=j) (by rw [zaf]; exact hjo)
    have si:=I4.isSome (by rw [zaf]; omega)
    rw [zb9,← hi] at ci
    have qg4:=c4.get qg (by omega)
    have q4:=c4.get q3 (by omega)
    simp only [he4,hltj,ci,qg4,decide_true,Int.toNat_natCast,za,Value.cells,Value.oneCell',Nat.reduceAdd,Nat.reduceSub,Nat.reduceMul,Nat.reduceLeDiff,Int.reduceEq,Nat.reduceEqDiff,zD]
    refine⟨by omega,si,?_⟩
    refine zb.mono (has126 m i (by omega) hi8 h4) ?_
    rintro v h5 ⟨rfl,x5⟩
    have M5:=M4.ext x5
    cases hbit:m.testBit i with
    | false=>
      simp only [he4,za,Value.cells,Value.oneCell',Nat.reduceAdd,Nat.reduceSub,Nat.reduceMul,Nat.reduceLeDiff,Int.reduceEq,Nat.reduceEqDiff,zD]
      exact⟨by rw [zf]; omega,zi (by kernel_rfl) ⟨c4.ext x5,j+1,by omega,rfl,em4,cm4,M5,E4.skip hjo (by rw [← hi]; exact hbit)⟩ measj⟩
    | true=>
    have hvl:(getA m em4).getD (.int .i64 0)=.int .i64 (LS.lsum (fS (fun i=>xs.getD i 0) m) (o.take j)):=by
      rw [E4.get,if_neg (by omega),if_pos rfl,valS_get]
    have qg5:=x5.get qg4
    have q55:=x5.get q4
    have ce:(ints xs)[i]?=some (.int .i64 (xs.getD i 0)):=ints_getElem? _ _ (by omega)
    simp only [za,Value.cells,Value.oneCell',Nat.reduceAdd,Nat.reduceSub,Nat.reduceMul,Nat.reduceLeDiff,Int.reduceEq,Nat.reduceEqDiff,zD]
    have hbd:∀ i∈o,-20000≤fS (fun i=>xs.getD i 0) m i∧fS (fun i=>xs.getD i 0) m i≤20000:=fun i hi=>by
      have h1:xs.getD i 0=balA es day (i:Int):=by rw [hxs]; exact zL es day (ho8 i hi)
      have h2:=zbG day (i:Int) hok
      have h3:1000*(es.length:Int)≤20000:=by omega
      unfold fS
      split
      · show -20000≤xs.getD i 0∧xs.getD i 0≤20000
        rw [h1]; omega
      · omega
    have hls:=zjj (B:=20000) (by decide) (F:=fS (fun i=>xs.getD i 0) m) (l:=o.take j) fun i hi=>hbd i (List.mem_of_mem_take hi)
    have hlt2:(o.take j).length≤8:=by rw [List.length_take]; omega
    have hxi:-20000≤xs.getD i 0∧xs.getD i 0≤20000:=by
      have:=hbd i hio
      unfold fS at this
      rw [if_pos hbit] at this
      exact this
    have hlm:h1.size<h2.size:=heb1
    have gm5:h2.size≤h5.size:=by have:=x5.size; omega
    refine WP_treeB (by kernel_rfl) (h2.size) (.pure 0 (.pure 3 (.pure 4 (.load 5 (.keep 1 (.fork 2 7 (.pure 6 (.keep 7 (.pure 8 (.keep 9 (.fin))))) (.pure 8 (.keep 2 (.pure 6 (.keep 9 (.fin))))))))))) (by kernel_rfl) rfl (by kernel_rfl) ?_
    simp only [qg5,q55,ce,Int.toNat_natCast,za,Value.cells,Value.oneCell',Nat.reduceAdd,Nat.reduceSub,Nat.reduceMul,Nat.reduceLeDiff,Int.reduceEq,Nat.reduceEqDiff,zx,za5,zbT,zD]
    refine⟨⟨by omega,by omega⟩,hlm,?_⟩
    have hvl2:(getA m (putA m ((getA m em4).getD (.int .i64 0)) cm4 em4)).getD (.int .i64 0)=.int .i64 (LS.lsum (fS (fun i=>xs.getD i 0) m) (o.take j)):=by
      rw [zdd,if_pos rfl]
      exact hvl
    have Eadd:EvI (fun i=>xs.getD i 0) o m (j+1) (putA m (.int .i64 (LS.lsum (fS (fun i=>xs.getD i 0) m) (o.take j)+xs.getD i 0)) (clkA m em4 cm4) (putA m ((getA m em4).getD (.int .i64 0)) cm4 em4)):=by
      have:=E4.add (c1:=cm4) (c2:=clkA m em4 cm4) (v:=(getA m em4).getD (.int .i64 0)) hjo (by rw [← hi]; exact hbit)
      rw [← hi] at this
      exact this
    refine zcY ?_
    simp only [qg5,za,Value.cells,Value.oneCell',Nat.reduceAdd,Nat.reduceSub,Nat.reduceMul,Nat.reduceLeDiff,Int.reduceEq,Nat.reduceEqDiff,zx,za5,zbT,zD]
    refine⟨RB.refl _ _,?_⟩
    refine zo0 ?_ ?_
    · simp only [za,Value.cells,Value.oneCell',Nat.reduceAdd,Nat.reduceSub,Nat.reduceMul,Nat.reduceLeDiff,Int.reduceEq,Nat.reduceEqDiff,zx,za5,zbT,zD]
      refine zeo Tryz.underlying160 zfP zdP M5 (a:=m) (by rfl) (by rfl) ?_
      simp only [Bool.false_eq_true,if_false,hvl,za,Value.cells,Value.oneCell',Nat.reduceAdd,Nat.reduceSub,Nat.reduceMul,Nat.reduceLeDiff,Int.reduceEq,Nat.reduceEqDiff,zx,za5,zbT,zD]
      refine⟨RB.refl _ _,by rw [zf]; omega,?_⟩
      refine zcY ?_
      simp only [zlN,za,Value.cells,Value.oneCell',Nat.reduceAdd,Nat.reduceSub,Nat.reduceMul,Nat.reduceLeDiff,Int.reduceEq,Nat.reduceEqDiff,zx,za5,zbT,zD]
      refine zkj Tryz.underlying160 zfP zdP M5 (a:=m) (by rfl) (by rfl) fun h6 w M6 hw6 u6=>⟨RB.of_upd u6 (Nat.le_refl _),?_⟩
      simp only [za,Value.cells,Value.oneCell',Nat.reduceAdd,Nat.reduceSub,Nat.reduceMul,Nat.reduceLeDiff,Int.reduceEq,Nat.reduceEqDiff,zx,za5,zbT,zD]
      refine zcY ?_
      simp only [zoI,za,Value.cells,Value.oneCell',Nat.reduceAdd,Nat.reduceSub,Nat.reduceMul,Nat.reduceLeDiff,Int.reduceEq,Nat.reduceEqDiff,zx,za5,zbT,zD]
      refine zmv M6 hw6 (zeJ E4.nd) (v:=.int .i64 (LS.lsum (fS (fun i=>xs.getD i 0) m) (o.take j)+xs.getD i 0)) (by rfl) (by rfl) (by rfl) fun h7 M7 u7=>⟨RB.of_upd u7 (Nat.le_refl _),?_⟩
      exact⟨by rw [zf]; omega,zi (by kernel_rfl) ⟨((c4.ext x5).upd u6).upd u7,j+1,by omega,rfl,_,_,M7,Eadd⟩ measj⟩
    · simp only [zlN,za,Value.cells,Value.oneCell',Nat.reduceAdd,Nat.reduceSub,Nat.reduceMul,Nat.reduceLeDiff,Int.reduceEq,Nat.reduceEqDiff,zx,za5,zbT,zD]
      refine zkj Tryz.underlying160 zfP zdP M5 (a:=m) (by rfl) (by rfl) fun h6 w M6 hw6 u6=>⟨RB.of_upd u6 (Nat.le_refl _),?_⟩
      simp only [za,Value.cells,Value.oneCell',Nat.reduceAdd,Nat.reduceSub,Nat.reduceMul,Nat.reduceLeDiff,Int.reduceEq,Nat.reduceEqDiff,zx,za5,zbT,zD]
      refine zcY ?_
      simp only [za,Value.cells,Value.oneCell',Nat.reduceAdd,Nat.reduceSub,Nat.reduceMul,Nat.reduceLeDiff,Int.reduceEq,Nat.reduceEqDiff,zx,za5,zbT,zD]
      refine zeo Tryz.underlying160 zfP zdP M6 (a:=m) (by rfl) (by rfl) ?_
      simp only [Bool.false_eq_true,if_false,hvl2,za,Value.cells,Value.oneCell',Nat.reduceAdd,Nat.reduceSub,Nat.reduceMul,Nat.reduceLeDiff,Int.reduceEq,Nat.reduceEqDiff,zx,za5,zbT,zD]
      refine⟨RB.refl _ _,by rw [zf]; omega,?_⟩
      refine zcY ?_
      simp only [zoI,za,Value.cells,Value.oneCell',Nat.reduceAdd,Nat.reduceSub,Nat.reduceMul,Nat.reduceLeDiff,Int.reduceEq,Nat.reduceEqDiff,zx,za5,zbT,zD]
      refine zmv M6 hw6 (zeJ E4.nd) (v:=.int .i64 (LS.lsum (fS (fun i=>xs.getD i 0) m) (o.take j)+xs.getD i 0)) (by rfl) (by rfl) (by rfl) fun h7 M7 u7=>⟨RB.of_upd u7 (Nat.le_refl _),?_⟩
      exact⟨by rw [zf]; omega,zi (by kernel_rfl) ⟨((c4.ext x5).upd u6).upd u7,j+1,by omega,rfl,_,_,M7,Eadd⟩ measj⟩
  obtain rfl:m=N:=by omega
  have hE:∀ s,getA s em=if s<m then valS (fun i=>xs.getD i 0) s o else none:=fun s=>by
    rw [E3.get]
    by_cases h1:s<m
    · rw [if_pos h1,if_pos h1]
    · rw [if_neg h1,if_neg h1]
      split <;> rfl
  have hVx:∀ x∈em,x.2.1=.int .i64 (LS.lsum (fS (fun i=>xs.getD i 0) x.1) o):=fun x hx=>by
    have h1:=zd9 E3.nd hx rfl
    rw [hE] at h1
    split at h1
    · unfold valS at h1
      split at h1
      · exact (Option.some.inj h1).symm
      · cases h1
    · cases h1
  have hs3:=c3.size
  rw [zaa] at hs3
  simp only [he3,show ¬ ((m:Int)<(m:Int)) by omega,decide_false,za,Value.cells,Value.oneCell',Nat.reduceAdd,Nat.reduceSub,Nat.reduceMul,Nat.reduceLeDiff,Int.reduceEq,Nat.reduceEqDiff,zD]
  refine zp2 Tryz.underlying160 M3 (by rfl) ?_
  simp only [za,Value.cells,Value.oneCell',Nat.reduceAdd,Nat.reduceSub,Nat.reduceMul,Nat.reduceLeDiff,Int.reduceEq,Nat.reduceEqDiff,zD]
  refine zo [12,13,61,62,63,64,65,66,67,68,69] (fun e h'=>Chg h3 h' h2.size∧∃ seen eZ c0,h'[h3.size]?=some (.mapIter (some h2.size) cm seen c0)∧cm≤c0∧MapV kvG h' h2.size eZ cm∧eZ.Sublist em∧(∀ x∈em,LS.lsum (fS (fun i=>xs.getD i 0) x.1) o=0→x∈eZ)∧(∀ x∈eZ,seen.contains x.2.2=true→LS.lsum (fS (fun i=>xs.getD i 0) x.1) o=0)) (fun _ h'=>leftN h3.size h2.size h') ⟨Chg.of_ext ((Ext.refl _).push _) _,#[],em,cm,zu,Nat.le_refl _,M3.ext ((Ext.refl _).push _),List.Sublist.refl _,fun x hx _=>hx,fun x hx hs=>by simp at hs⟩ ?_
  rintro e4 h4 ⟨c4,seen,eZ,c0,hit,hc0,M4,hsub,hin,hseen⟩
  have hμ:=zhL M4 hit
  have hr4:=zt hit
  have hs4:=c4.size
  simp only [za,Value.cells,Value.oneCell',Nat.reduceAdd,Nat.reduceSub,Nat.reduceMul,Nat.reduceLeDiff,Int.reduceEq,Nat.reduceEqDiff,zD]
  refine zre M4 hit M4.lt hc0 (by rfl) ?_ ?_
  · intro hall
    simp only [za,Value.cells,Value.oneCell',Nat.reduceAdd,Nat.reduceSub,Nat.reduceMul,Nat.reduceLeDiff,Int.reduceEq,Nat.reduceEqDiff,zD]
    have hZn:(eZ.map (·.1)).Nodup:=E3.nd.sublist (hsub.map _)
    have hZ:∀ s,(getA s eZ).isSome=true↔s<m∧o.any (fun i=>s.testBit i)=true∧LS.lsum (fS (fun i=>xs.getD i 0) s) o=0:=fun s=>by
      constructor
      · intro hs
        obtain⟨v,hv⟩:=Option.isSome_iff_exists.1 hs
        obtain⟨w,hw⟩:=zhN hv
        have h1:=hseen _ hw (hall _ hw)
        have h2:=hE s
        rw [zd9 E3.nd (hsub.subset hw) rfl] at h2
        split at h2
        · rename_i hlt
          refine⟨hlt,?_,h1⟩
          unfold valS at h2
          split at h2
          · assumption
          · cases h2
        · cases h2
      · rintro⟨h1,h2,h3⟩
        have h4:=hE s
        rw [if_pos h1] at h4
        unfold valS at h4
        rw [if_pos h2] at h4
        obtain⟨w,hw⟩:=zhN h4
        rw [zd9 hZn (hin _ hw h3) rfl]
        rfl
    clear hall hseen hin hsub hμ hit
    refine zax zu (by simp) fun h5 g5 u5=>?_
    simp only [splice,List.drop,List.take] at g5
    have s5:=u5.size
    rw [zaa] at s5
    have c5:Chg h3 h5 h2.size:=(c4.trans (Chg.of_ext ((Ext.refl h4).push (.cells #[.int .i64 0] 162)) h2.size)).upd_new u5 (by omega)
    have M5:MapV kvG h5 h2.size eZ cm:=(M4.ext ((Ext.refl h4).push (.cells #[.int .i64 0] 162))).keep (u5.old _ (by omega))
    have I5:zJ h5 aO o.length (nz o):=((OO.ints.ext xm).chg (MapV.empty (kv:=kvG) h2).obj c3).chg M3.obj c5
    have hg5:h5[g0]?=some (.cells #[.int .i64 k,.int .i64 cl,.slice a n c] 150):=c5.get (c3.get hgm (by have:=zt hg2; omega)) (by have:=zt hg2; omega)
    simp only [za,Value.cells,Value.oneCell',Nat.reduceAdd,Nat.reduceSub,Nat.reduceMul,Nat.reduceLeDiff,Int.reduceEq,Nat.reduceEqDiff,zD]
    have OO5:=((OO.ext xm).keep (h':=h3) fun p hp=>c3.old _ (by have:=(OO.lt hp).1; rw [zaa]; omega) (by have:=(OO.lt hp).1; omega)).keep (h':=h5) fun p hp=>c5.old _ (by have:=(OO.lt hp).1; omega) (by have:=(OO.lt hp).1; omega)
    refine zo [16,73,74,75,76,77,78,79,80,81,82,83] (fun e h'=>Upd h5 h' h4.size∧∃ t:Nat,t≤o.length∧e 73=.int .i64 t∧∃ w:Nat,w<256∧(∀ i,w.testBit i=true↔i∈o.take t)∧h'[h4.size]?=some (.cells #[.int .i64 w] 162)) (fun e _=>match e 73 with | .int _ q=>o.length - q.toNat | _=>0) ⟨Upd.refl _ _,0,by omega,rfl,0,by omega,fun i=>by rw [Nat.zero_testBit]; simp,g5⟩ ?_
    rintro e6 h6 ⟨u6,t,ht,he6,w,hw,hbits,g6⟩
    by_cases hto:t<o.length
    · have hlt:(t:Int)<(o.length:Int):=by omega
      have meas:o.length - ((t:Int)+1).toNat<o.length - (t:Int).toNat:=by omega
      obtain⟨i,hi⟩:∃ i,i=o.getD t 0:=⟨_,rfl⟩
      have hio:i∈o:=by rw [hi,List.getD_eq_getElem?_getD,List.getElem?_eq_getElem hto]; exact List.getElem_mem hto
      have hi8:=ho8 i hio
      have OO6:=OO5.keep (h':=h6) fun p hp=>u6.old _ (by have:=(OO.lt hp).1; omega)
      have ci:=OO6.ints.cell (j:=t) (by rw [zaf]; exact hto)
      have si:=OO6.ints.isSome (by rw [zaf]; omega)
      rw [zb9,← hi] at ci
      have e1i:(1:Int)*2 ^ i=((2 ^ i:Nat):Int):=by rw [Int.one_mul]; simp
      have h2i:2 ^ i≤128:=by
        have:2 ^ i≤2 ^ 7:=Nat.pow_le_pow_right (by decide) (by omega)
        simpa using this
      have eor:=zlJ w (2 ^ i) (by omega) (by omega)
      simp only [he6,hlt,ci,decide_true,Int.toNat_natCast,za,Value.cells,Value.oneCell',Nat.reduceAdd,Nat.reduceSub,Nat.reduceMul,Nat.reduceLeDiff,Int.reduceEq,Nat.reduceEqDiff,zD]
      refine⟨by omega,si,?_⟩
      refine zam (by kernel_rfl) zaM [(0,0),(1,0),(2,0),(3,0),(4,0),(5,0),(6,1)] (by kernel_rfl) rfl (by kernel_rfl) ?_
      simp only [g6,e1i,eor,Int.toNat_natCast,zW,za,Value.cells,Value.oneCell',Nat.reduceAdd,Nat.reduceSub,Nat.reduceMul,Nat.reduceLeDiff,Int.reduceEq,Nat.reduceEqDiff,zx,zD]
      have hInK:∀ z:Nat,z≤128→InK .i64 (z:Int):=fun z hz=>by rw [zf]; omega
      refine⟨by omega,by simp [IntKind.bits]; omega,hInK _ h2i,?_⟩
      refine zax (c:=[.int .i64 w]) g6 (by simp) fun h7 g7 u7=>?_
      simp only [splice,List.drop,List.take] at g7
      simp only [he6,zW,za,Value.cells,Value.oneCell',Nat.reduceAdd,Nat.reduceSub,Nat.reduceMul,Nat.reduceLeDiff,Int.reduceEq,Nat.reduceEqDiff,zx,zD]
      refine⟨by rw [zf]; omega,zi (by kernel_rfl) ⟨u6.trans u7,t+1,by omega,rfl,w|||2 ^ i,?_,fun x=>?_,g7⟩ meas⟩
      · have:=Nat.or_lt_two_pow (n:=8) (x:=w) (y:=2 ^ i) (by omega) (by omega)
        simpa using this
      · have e:o.take (t+1)=o.take t++[i]:=by
          rw [List.take_add_one,List.getElem?_eq_getElem hto,hi,List.getD_eq_getElem?_getD,List.getElem?_eq_getElem hto]; rfl
        rw [e,List.mem_append,List.mem_singleton,Nat.testBit_or,Nat.testBit_two_pow,Bool.or_eq_true,hbits,decide_eq_true_eq]
        constructor
        · rintro (h | h)
          · exact .inl h
          · exact .inr h.symm
        · rintro (h | h)
          · exact .inl h
          · exact .inr h.symm
    obtain rfl:t=o.length:=by omega
    rw [List.take_length] at hbits
    simp only [he6,g6,show ¬ ((o.length:Int)<(o.length:Int)) by omega,decide_false,za,Value.cells,Value.oneCell',Nat.reduceAdd,Nat.reduceSub,Nat.reduceMul,Nat.reduceLeDiff,Int.reduceEq,Nat.reduceEqDiff,zD]
    have hEv:=even_iff hxs hok hNe (by rw [← ho]; exact hbits) (by rw [← ho]; exact hZ)
    have hAz:=zmT hxs hok hk (by rw [← ho]; exact hbits)
    have hAm:=zoM hxs (by rw [← ho]; exact hbits)
    have s6:=u6.size
    have M6:MapV kvG h6 h2.size eZ cm:=M5.keep (u6.old _ (by omega))
    have xf:Ext h6 (h6.push (.map #[] 0)):=(Ext.refl h6).push _
    have hM6:=zt M6.obj
    have F6:Fnd (LS.zero (fun i=>xs.getD i 0) 8) (h6.push (.map #[] 0)) h6.size [] 0:=⟨MapV.empty h6,fun s v hv=>by cases hv⟩
    refine zb.mono (zrV (fun i=>xs.getD i 0) 8 w h2.size h6.size cm eZ hw (by omega) hEv w [] 0 _ (Nat.and_self w) hAz (M6.ext xf) F6) ?_
    rintro v h8 ⟨⟨a8,n8,k8,ps,rfl,hn8,O8,hpt,hmost⟩,c8,fs,fc,F8⟩
    simp only [za,Value.cells,Value.oneCell',Nat.reduceAdd,Nat.reduceSub,Nat.reduceMul,Nat.reduceLeDiff,Int.reduceEq,Nat.reduceEqDiff,zD]
    have g8:h8[g0]?=some (.cells #[.int .i64 k,.int .i64 cl,.slice a n c] 150):=c8.get (xf.get (u6.get hg5 (by have:=zt hg2; omega))) (by have:=zt hg2; omega)
    have hnw:n8≤256:=by have:=pt_le hpt; omega
    refine zo [17,19,20,21,89,90,91,92,93,94,95,96,97,98,99,100,101,102,103,104,105,106,107,108,109,110,111,112,113] (fun e h'=>Ext h8 h'∧∃ j:Nat,j≤n8∧e 89=.int .i64 j∧∃ aL cL G,e 17=.slice aL j cL∧G.length=j∧OwnV h8.size h' 40 1 aL j cL (hdsV (G.map (·.1)))∧Bld k h' G∧G.map (·.2)=ps.take j) (fun e _=>match e 89 with | .int _ q=>n8 - q.toNat | _=>0) ⟨Ext.refl _,0,by omega,rfl,none,0,[],rfl,rfl,OwnV.nil _ _ _ _,(fun g hg=>by cases hg),rfl⟩ ?_
    rintro e9 h9 ⟨x9,j,hj,he9,aL,cL,G,heL,hGl,OL,hB,hGp⟩
    by_cases hjn:j<n8
    case neg=>
      obtain rfl:n8=j:=by omega
      simp only [he9,heL,show ¬ ((n8:Int)<(n8:Int)) by omega,decide_false,za,Value.cells,Value.oneCell',Nat.reduceAdd,Nat.reduceSub,Nat.reduceMul,Nat.reduceLeDiff,Int.reduceEq,Nat.reduceEqDiff,zD]
      have hXX:Ext h h8:=by
        have z2:=y2.size
        have w3:Ext h h3:=Chg.fresh (y2.trans xm) c3 z2
        have w5:Ext h h5:=Chg.fresh w3 c5 z2
        have w6:Ext h h6:=u6.ext w5 (by omega)
        exact Chg.fresh (w6.trans xf) c8 (by omega)
      have hp1:∀ g∈G,0<(acc g.2 k).length:=fun g hg=>by
        have h1:g.2∈ps:=by
          have h2:g.2∈G.map (·.2):=List.mem_map.2 ⟨g,hg,rfl⟩
          rw [hGp] at h2
          exact List.mem_of_mem_take h2
        have h2:=zli hpt h1
        refine zjW (zjc hpt h1).1 fun i hi=>?_
        rw [← h2,Nat.testBit_and,Bool.and_eq_true] at hi
        have h3:=(hbits i).1 hi.2
        rw [ho] at h3
        obtain⟨h4,h5⟩:=zbD.1 h3
        refine Nat.lt_of_not_le fun hle=>h5 ?_
        rw [hxs,zL es day h4]
        exact zeb hok hle
      have hps:ps.take n8=ps:=List.take_of_length_le (by omega)
      rw [hps] at hGp
      rcases OL.ok with⟨rfl,e1,rfl⟩ | ⟨gb,cur,rfl,hgb,hcur,hcs,hnc,htk⟩
      · subst e1
        refine zb.mono (zjk h9) ?_
        rintro v h10 rfl
        simp only [za,Value.cells,Value.oneCell',Nat.reduceAdd,Nat.reduceSub,Nat.reduceMul,Nat.reduceLeDiff,Int.reduceEq,Nat.reduceEqDiff,zD]
        have hG0:G=[]:=List.length_eq_zero_iff.1 hGl
        subst hG0
        exact⟨⟨none,0,0,[],rfl,rfl,OwnV.nil _ _ _ _,hB,List.Pairwise.nil,⟨ps,by rw [hGp],by rw [← hAm]; exact hpt⟩,by rw [← hAm]; exact hmost⟩,hXX.trans x9⟩
      have hcw:cur=(hdsV (G.map (·.1))++cur.toList.drop (n8*1)).toArray:=by rw [← htk]; simp
      obtain⟨tl,htl⟩:∃ tl,tl=cur.toList.drop (n8*1):=⟨_,rfl⟩
      rw [← htl] at hcw
      have hk9:∀ g∈G,keyH h9 g.1=((acc g.2 k).getD 0 0:Nat):=fun g hg=>by
        unfold keyH
        rw [zoH hB hcur hg (hp1 g hg) (Upd.refl h9 gb)]
      have hnl:n8≤8:=by
        have h1:=zii (n:=8) hpt fun i hi=>ho8 i ((hbits i).1 hi)
        have h2:=ze1 w 8
        omega
      refine zb.mono (znU gb cL n8 (keyH h9) (G.map (·.1)) tl h9 (by rw [← hcw]; exact hcur) (by simp [hGl]) (by omega) fun u hu=>?_) ?_
      · obtain⟨g,hg,rfl⟩:=List.mem_map.1 hu
        have h1:=bld_some hB hg (hp1 g hg)
        have h2:(acc g.2 k).getD 0 0<8:=by
          have h3:=hp1 g hg
          rw [List.getD_eq_getElem?_getD,List.getElem?_eq_getElem h3]
          have:=(za4.1 (List.getElem_mem h3)).1
          show (acc g.2 k)[0]<8
          omega
        refine⟨h1.1,h1.2,by rw [hk9 g hg]; omega,fun h' u=>?_⟩
        rw [hk9 g hg]
        exact zoH hB hcur hg (hp1 g hg) u
      rintro v h10 ⟨u10,T,hTp,hTs,hT10⟩
      simp only [za,Value.cells,Value.oneCell',Nat.reduceAdd,Nat.reduceSub,Nat.reduceMul,Nat.reduceLeDiff,Int.reduceEq,Nat.reduceEqDiff,zD]
      obtain⟨G',hGp',hGm'⟩:=zq5 hTp rfl
      have hsub:∀ g∈G',g∈G:=fun g hg=>hGp'.subset hg
      refine⟨⟨_,n8,cL,G',rfl,by rw [hGp'.length_eq,hGl],⟨?_,.inr ⟨gb,_,rfl,by have:=hXX.size; omega,hT10,?_,hnc,?_⟩⟩,fun g hg=>(hB.upd hcur u10) g (hsub g hg),?_,⟨ps,by rw [← hGp]; exact hGp'.map _,by rw [← hAm]; exact hpt⟩,by rw [← hAm]; exact hmost⟩,u10.ext (hXX.trans x9) (by have:=hXX.size; omega)⟩
      · rw [zF,List.length_map,hGp'.length_eq,hGl,Nat.mul_one]
      · have h1:=congrArg Array.size hcw
        have h2:=hTp.length_eq
        simp only [List.size_toArray,List.length_append,zF,List.length_map] at h1 h2 ⊢
        omega
      · rw [hGm',List.toList_toArray,List.take_append_of_le_length (by rw [zF,hTp.length_eq,List.length_map,hGl]; omega),List.take_of_length_le (by rw [zF,hTp.length_eq,List.length_map,hGl]; omega)]
      · rw [← hGm',List.pairwise_map] at hTs
        refine hTs.imp_of_mem fun {x y} hx hy hxy=>?_
        rw [hk9 x (hsub x hx),hk9 y (hsub y hy)] at hxy
        omega
    have hltj:(j:Int)<(n8:Int):=by omega
    have measj:n8 - ((j:Int)+1).toNat<n8 - (j:Int).toNat:=by omega
    have hjp:j<ps.length:=by omega
    obtain⟨p,hp⟩:∃ p,p=ps[j]:=⟨_,rfl⟩
    have O9:=O8.ext x9
    have cp:zaK h9 (eltP a8 j) 1=some [.int .i64 (p:Nat)]:=by
      rw [O9.row.cells (j:=j) (n:=1) (by rw [zl,zaf]; omega) (by decide),List.drop_eq_getElem_cons (by rw [zl,zaf]; omega),hp]
      simp [ints,nz]
    have s8:a8.isSome=true:=by
      rcases O9.ok with⟨_,h1,_⟩ | ⟨g,cur,h1,_⟩
      · omega
      · rw [h1]; rfl
    have pw:p&&&w=p:=zli hpt (by rw [hp]; exact List.getElem_mem hjp)
    simp only [he9,heL,hltj,cp,decide_true,Int.toNat_natCast,za,Value.cells,Value.oneCell',Nat.reduceAdd,Nat.reduceSub,Nat.reduceMul,Nat.reduceLeDiff,Int.reduceEq,Nat.reduceEqDiff,zD]
    refine⟨by omega,s8,?_⟩
    refine zax zu (by simp) fun h10 g10 u10=>?_
    simp only [splice,List.drop,List.take,List.append_nil,List.nil_append,List.length_cons,List.length_nil] at g10
    have s10:=u10.size
    rw [zaa] at s10
    have x10:Ext h9 h10:=u10.ext ((Ext.refl h9).push _) (Nat.le_refl _)
    have g10b:h10[g0]?=some (.cells #[.int .i64 k,.int .i64 cl,.slice a n c] 150):=x10.get (x9.get g8)
    have OL10:=OL.ext x10
    have hB10:=hB.ext x10
    have ip:p<256:=by
      have:p&&&w≤w:=Nat.and_le_right
      omega
    simp only [g10b,za,Value.cells,Value.oneCell',Nat.reduceAdd,Nat.reduceSub,Nat.reduceMul,Nat.reduceLeDiff,Int.reduceEq,Nat.reduceEqDiff,zD]
    refine zo [20,21,98,99,100,101,102,103,104,105,106,107,108] (fun e h'=>Ext h10 h'∧∃ i:Nat,i≤k∧e 98=.int .i64 i∧∃ aA cA,e 20=.slice aA (acc p i).length cA∧OwnI h10.size h' 3 aA (acc p i).length cA (nz (acc p i))) (fun e _=>match e 98 with | .int _ q=>k - q.toNat | _=>0) ⟨Ext.refl _,0,by omega,rfl,none,0,rfl,OwnI.nil _ _ _⟩ ?_
    rintro e11 h11 ⟨x11,i,hi,he11,aA,cA,heA,OA⟩
    by_cases hik:i<k
    case neg=>
      obtain rfl:k=i:=by omega
      simp only [he9,heL,he11,heA,show ¬ ((k:Int)<(k:Int)) by omega,decide_false,splice,List.drop,List.take,List.append_nil,List.nil_append,List.length_cons,List.length_nil,za,Value.cells,Value.oneCell',Nat.reduceAdd,Nat.reduceSub,Nat.reduceMul,Nat.reduceLeDiff,Int.reduceEq,Nat.reduceEqDiff,zD]
      have xg:Ext h11 (h11.push (.cells #[.slice aA (acc p k).length cA] 40)):=(Ext.refl h11).push _
      have xx:=x11.trans xg
      have OL11:=OL10.ext xx
      have z8:h8.size≤h11.size:=Nat.le_trans x9.size (Nat.le_trans x10.size x11.size)
      refine app73 (m0:=h8.size) (len:=j) (T:=G.map (·.1)) (U:=[(aA,(acc p k).length,cA)]) rfl rfl OL11 (by rw [zaa]; omega) (Row.block (c:=hdsV [(aA,(acc p k).length,cA)]) zu) rfl (by omega) fun a' cap' h5 O5 A5=>?_
      have OAg:=zhv (OA.ext xg) A5 OL11 (by decide)
      have hB5:Bld k h5 (G++[((aA,(acc p k).length,cA),p)]):=fun g hg=>by
        rcases List.mem_append.1 hg with hg | hg
        · have h1:=(hB10.ext xx) g hg
          exact⟨h1.1,zhv h1.2 A5 OL11 (by decide)⟩
        · rw [List.mem_singleton.1 hg]
          exact⟨rfl,OAg.mono (Nat.zero_le _)⟩
      simp only [he9,heL,he11,heA,za,Value.cells,Value.oneCell',Nat.reduceAdd,Nat.reduceSub,Nat.reduceMul,Nat.reduceLeDiff,Int.reduceEq,Nat.reduceEqDiff,zD]
      refine⟨by rw [zf]; omega,zi (by kernel_rfl) ⟨A5.extV OL11 ((x9.trans x10).trans xx) (Nat.le_refl _),j+1,by omega,rfl,a',cap',G++[((aA,(acc p k).length,cA),p)],rfl,by simp [hGl],by rw [List.map_append]; exact O5,hB5,?_⟩ measj⟩
      rw [List.map_append,hGp,List.take_add_one,List.getElem?_eq_getElem hjp,← hp]
      rfl
    have hlti:(i:Int)<(k:Int):=by omega
    have measi:k - ((i:Int)+1).toNat<k - (i:Int).toNat:=by omega
    have g11:=x11.get g10
    have nx:=zcw p i
    have le:=ze1 p i
    simp only [he11,heA,hlti,g11,decide_true,Int.toNat_natCast,za,Value.cells,Value.oneCell',Nat.reduceAdd,Nat.reduceSub,Nat.reduceMul,Nat.reduceLeDiff,Int.reduceEq,Nat.reduceEqDiff,zD]
    refine zb.mono (has126 p i (by omega) (by omega) h11) ?_
    rintro v h12 ⟨rfl,x12⟩
    cases hbit:p.testBit i with
    | false=>
      rw [if_neg (by rw [hbit]; decide),List.append_nil] at nx
      simp only [he11,heA,za,Value.cells,Value.oneCell',Nat.reduceAdd,Nat.reduceSub,Nat.reduceMul,Nat.reduceLeDiff,Int.reduceEq,Nat.reduceEqDiff,zD]
      exact⟨by rw [zf]; omega,zi (by kernel_rfl) ⟨x11.trans x12,i+1,by omega,rfl,aA,cA,by rw [nx]; rfl,by rw [nx]; exact OA.ext x12⟩ measi⟩
    | true=>
      rw [if_pos hbit] at nx
      simp only [he11,heA,za,Value.cells,Value.oneCell',Nat.reduceAdd,Nat.reduceSub,Nat.reduceMul,Nat.reduceLeDiff,Int.reduceEq,Nat.reduceEqDiff,zD]
      have OA':=(OA.ext x12).ext ((Ext.refl h12).push (.cells #[.int .i64 (i:Int)] 3))
      refine ziQ (m0:=h10.size) (len:=(acc p i).length) (m:=1) (ys:=[(i:Int)]) rfl rfl OA' (by rw [zaa]; have:=(x11.trans x12).size; omega) (zaB zu) (by omega) fun a' cap' h5 O5 A5=>?_
      have ell:(acc p i).length+1=(acc p (i+1)).length:=by rw [nx]; simp
      rw [zjz,← nx,ell] at O5
      simp only [he11,za,Value.cells,Value.oneCell',Nat.reduceAdd,Nat.reduceSub,Nat.reduceMul,Nat.reduceLeDiff,Int.reduceEq,Nat.reduceEqDiff,zD]
      refine⟨by rw [zf]; omega,zi (by kernel_rfl) ⟨A5.extN OA' ((x11.trans x12).push _) (Nat.le_refl _),i+1,by omega,rfl,a',cap',by rw [← ell]; rfl,O5⟩ measi⟩
  · intro x hx hxs h5 hr5 u5
    simp only [za,Value.cells,Value.oneCell',Nat.reduceAdd,Nat.reduceSub,Nat.reduceMul,Nat.reduceLeDiff,Int.reduceEq,Nat.reduceEqDiff,zD]
    have M5:MapV kvG h5 h2.size eZ cm:=M4.keep (u5.old _ (by omega))
    simp only [zqT]
    refine zo7 M5 hx hr5 (by rfl) ?_
    have hxv:=hVx x (hsub.subset hx)
    simp only [hxv,kvG,za,Value.cells,Value.oneCell',Nat.reduceAdd,Nat.reduceSub,Nat.reduceMul,Nat.reduceLeDiff,Int.reduceEq,Nat.reduceEqDiff,zD]
    refine zax zu (by simp) fun h6 g6 u6=>?_
    simp only [splice,List.drop,List.take] at g6
    have s5:=u5.size
    have s6:=u6.size
    rw [zaa] at s6
    have c6:Chg h3 h6 h2.size:=((c4.upd_new u5 (Nat.le_refl _)).trans (Chg.of_ext ((Ext.refl h5).push (.cells #[.int .i64 0] 162)) h2.size)).upd_new u6 (by omega)
    have hr6:h6[h3.size]?=some (.mapIter (some h2.size) cm (seen.push x.2.2) cm):=u6.get (zaO hr5) (by omega)
    have M6:MapV kvG h6 h2.size eZ cm:=(M5.ext ((Ext.refl h5).push (.cells #[.int .i64 0] 162))).keep (u6.old _ (by omega))
    have hnod:(eZ.map (·.1)).Nodup:=E3.nd.sublist (hsub.map _)
    have hbn:∀ y∈eZ,y.2.2=x.2.2→y=x:=fun y hy hye=>born_eq M4.born hy hx hye
    have hpush:∀ w:Nat,(seen.push x.2.2).contains w=(seen.contains w||decide (w=x.2.2)):=fun w=>by
      simp [Array.contains_push,eq_comm]
    have hdec:(eZ.filter fun y=>!(seen.push x.2.2).contains y.2.2).length<(eZ.filter fun y=>!seen.contains y.2.2).length:=by
      refine Go.Eng.filter_lt (fun y hy=>?_) hx ?_ ?_
      · rw [hpush]; simp; exact fun h _=>h
      · simpa using hxs
      · simp [hpush]
    by_cases h0:LS.lsum (fS (fun i=>xs.getD i 0) x.1) o=0
    · simp only [h0,g6,decide_true,Bool.not_true,za,Value.cells,Value.oneCell',Nat.reduceAdd,Nat.reduceSub,Nat.reduceMul,Nat.reduceLeDiff,Int.reduceEq,Nat.reduceEqDiff,zD]
      refine zi (by kernel_rfl) ⟨c6,seen.push x.2.2,eZ,cm,hr6,Nat.le_refl _,M6,hsub,hin,fun y hy hys=>?_⟩ ?_
      · rw [hpush,Bool.or_eq_true,decide_eq_true_eq] at hys
        rcases hys with hys | hys
        · exact hseen y hy hys
        · rw [hbn y hy hys]; exact h0
      · rw [zhL M6 hr6,hμ]
        exact hdec
    · simp only [h0,g6,decide_false,Bool.not_false,za,Value.cells,Value.oneCell',Nat.reduceAdd,Nat.reduceSub,Nat.reduceMul,Nat.reduceLeDiff,Int.reduceEq,Nat.reduceEqDiff,zD]
      refine map_delT Tryz.underlying160 zdP M6 (a:=x.1) (by rfl) (by rfl) fun h7 M7 u7=>?_
      simp only [za,Value.cells,Value.oneCell',Nat.reduceAdd,Nat.reduceSub,Nat.reduceMul,Nat.reduceLeDiff,Int.reduceEq,Nat.reduceEqDiff,zD]
      have hr7:h7[h3.size]?=some (.mapIter (some h2.size) cm (seen.push x.2.2) cm):=u7.get hr6 (by omega)
      refine zi (by kernel_rfl) ⟨c6.upd u7,seen.push x.2.2,_,cm,hr7,Nat.le_refl _,M7,ze6.trans hsub,fun y hy hyc=>?_,fun y hy hys=>?_⟩ ?_
      · refine (zf8 hnod).2 ⟨hin y hy hyc,fun hye=>h0 ?_⟩
        rw [← hye]
        exact hyc
      · obtain⟨hy1,hy2⟩:=(zf8 hnod).1 hy
        rw [hpush,Bool.or_eq_true,decide_eq_true_eq] at hys
        rcases hys with hys | hys
        · exact hseen y hy1 hys
        · exact absurd (by rw [hbn y hy1 hys]) hy2
      · rw [zhL M7 hr7,hμ]
        refine Nat.lt_of_le_of_lt ?_ hdec
        exact (ze6.filter _).length_le
end Go.Proofs.YtepaekbjoombpaaGreatDoor
end
section
namespace Go.Proofs.YtepaekbjoombpaaGreatDoor
open Go Go.Proofs Go.Eng Go.Run Tab
set_option maxRecDepth 100000
set_option linter.unusedSimpArgs false
set_option linter.unusedVariables false
set_option linter.defProp false
set_option maxHeartbeats 4000000
set_option linter.defProp false
def zfd:=(And.intro (And.intro (And.intro @zbV @by3) (And.intro @zbS @inf3)) (And.intro (And.intro @sz24 @sz3) (And.intro @zbH (And.intro @Tryz.underlying40 @Tryz.underlying73))))
def l8 (es:List En)(day:Int)(i:Nat):Int:=(bals 8 es day).getD i 0
theorem zeg (es:List En)(day:Int):(opL8 (bals 8 es day) 8).length=LS.opens (l8 es day) 8:=rfl
theorem fewest49 (acc cl:Int)(a:Option Addr)(n c:Nat)(es:List En)(day:Int)(h:Eng.Heap)(hr:Row h a (ensV es))(hn:n=es.length)(hl:n≤1000000) :
    zb Tryz.prog 49 #[.agg #[.int .i64 acc,.int .i64 cl,.slice a n c],.int .i64 day] h (fun v h'=>((opn acc cl es [day]=0∧∃ j:Nat,LS.Most (LS.zero (l8 es day) 8) (LS.msk (LS.opn (l8 es day)) 8) j∧j≤8∧v=.tuple #[.int .i64 ((LS.opens (l8 es day) 8:Nat) - (j:Nat):Int),.int .i64 0]) ∨
      (opn acc cl es [day]≠0∧v=.tuple #[.int .i64 0,.int .i64 (opn acc cl es [day])]))∧Ext h h'):=by
  (refine ze Tryz.func49 rfl bod49 ?_; simp only [Tryz.ntmps49,Tryz.results49,za,zh,splice,Value.cells,Value.oneCell',Nat.reduceAdd,Nat.reduceSub,Nat.reduceMul,Nat.reduceLeDiff,Int.reduceEq,Nat.reduceEqDiff,zfd])
  refine zb.mono (zfb acc cl a n c es _ 1 1 [day] _ ((hr.push _).push _) hn hl (zaB pn1) (by omega)) ?_
  rintro v h1 ⟨x1,H⟩
  have y1:=x1.of_push.of_push
  rcases H with⟨e0,g,rfl,hg,hsz⟩ | ⟨e0,rfl⟩
  · obtain⟨hc,hd⟩:=zbZ e0
    obtain⟨ha,hl2,hcl,hok,hso,hft⟩:=zbX hc
    obtain⟨k,rfl⟩:∃ k:Nat,acc=k:=⟨acc.toNat,by omega⟩
    have hb1:=x1.get pn0
    simp only [hb1,za,Value.cells,Value.oneCell',Nat.reduceAdd,Nat.reduceSub,Nat.reduceMul,Nat.reduceLeDiff,Int.reduceEq,Nat.reduceEqDiff,zfd]
    refine zb.mono (zcQ g k cl a n c es day h1 hg (hr.ext y1) hn (by omega) hok ha.2 hft) ?_
    rintro v h2 ⟨rfl,x2⟩
    simp only [za,Value.cells,Value.oneCell',Nat.reduceAdd,Nat.reduceSub,Nat.reduceMul,Nat.reduceLeDiff,Int.reduceEq,Nat.reduceEqDiff,zfd]
    refine zb.mono (zlB (bals 8 es day) (zm _ _ _) h2) ?_
    rintro v h3 ⟨⟨aO,cO,rfl,OO⟩,x3⟩
    simp only [za,Value.cells,Value.oneCell',Nat.reduceAdd,Nat.reduceSub,Nat.reduceMul,Nat.reduceLeDiff,Int.reduceEq,Nat.reduceEqDiff,zfd]
    have y3:=(y1.trans x2).trans x3
    refine zb.mono (zh6 g k cl a n c es day h3 ((x2.trans x3).get hg) (hr.ext y3) hn (by omega) hok (by omega) hft) ?_
    rintro v h4 ⟨⟨a4,n4,c4,G,rfl,hGl,O4,B4,S4,⟨ps,P1,P2⟩,hm⟩,x4⟩
    have hn4:n4≤8:=by
      have h1:=P1.length_eq
      have h2:=zii (n:=8) P2 fun i hi=>by
        rw [LS.zaU,Bool.and_eq_true,decide_eq_true_eq] at hi
        exact hi.1
      have h3:=ze1 (LS.msk (LS.opn fun i=>(bals 8 es day).getD i 0) 8) 8
      rw [List.length_map] at h1
      omega
    have hO:=zbx (bals 8 es day) 8
    simp only [za,Value.cells,Value.oneCell',Nat.reduceAdd,Nat.reduceSub,Nat.reduceMul,Nat.reduceLeDiff,Int.reduceEq,Nat.reduceEqDiff,zfd]
    exact⟨by rw [zf]; omega,.inl ⟨e0,n4,hm,hn4,rfl⟩,y3.trans x4⟩
  · simp only [e0,decide_false,Bool.not_false,za,Value.cells,Value.oneCell',Nat.reduceAdd,Nat.reduceSub,Nat.reduceMul,Nat.reduceLeDiff,Int.reduceEq,Nat.reduceEqDiff,zfd]
    exact⟨.inr e0,y1⟩
theorem zga {F:Nat→Int}{k:Nat}(hF:∀ i,k≤i→F i=0):∀ d,LS.sm F (k+d)=LS.sm F k
  | 0=>rfl
  | d+1=>by
    show LS.sm F (k+d)+F (k+d)=LS.sm F k
    rw [zga hF d,hF _ (by omega)]
    omega
theorem cut8 {l:Nat→Int}{k:Nat}(hk:k≤8)(h:∀ i,k≤i→l i=0):LS.zero l 8=LS.zero l k∧LS.msk (LS.opn l) 8=LS.msk (LS.opn l) k∧LS.opens l 8=LS.opens l k:=by
  have e8:8=k+(8 - k):=by omega
  refine⟨funext fun t=>?_,?_,?_⟩
  · unfold LS.zero
    have:=zga (F:=fun i=>if t.testBit i then l i else 0) (k:=k) (fun i hi=>by show (if t.testBit i then l i else 0)=0; rw [h i hi]; split <;> rfl) (8 - k)
    rw [← e8] at this
    rw [this]
  · apply Nat.eq_of_testBit_eq
    intro i
    rw [LS.zaU,LS.zaU]
    by_cases hi:i<k
    · have:i<8:=by omega
      simp [hi,this]
    · have h0:LS.opn l i=false:=by unfold LS.opn; rw [h i (by omega)]; rfl
      rw [h0]; simp
  · have key:∀ d,((List.range (k+d)).filter (LS.opn l)).length=((List.range k).filter (LS.opn l)).length:=fun d=>by
      induction d with
      | zero=>rfl
      | succ d ih=>
        have h0:LS.opn l (k+d)=false:=by unfold LS.opn; rw [h _ (by omega)]; rfl
        rw [← Nat.add_assoc,List.range_succ,List.filter_append,List.length_append,ih,List.filter_cons_of_neg (by rw [h0]; decide)]
        rfl
    unfold LS.opens
    have:=key (8 - k)
    rw [← e8] at this
    exact this
theorem l8_far {k:Nat}{es:List En}{day:Int}(hok:∀ e∈es,okE k e)(i:Nat)(hi:k≤i):l8 es day i=0:=by
  unfold l8
  by_cases h:i<8
  · rw [zL es day h]; exact zeb hok hi
  · rw [List.getD_eq_getElem?_getD,List.getElem?_eq_none (by rw [zm]; omega)]; rfl
end Go.Proofs.YtepaekbjoombpaaGreatDoor
end
section
namespace Go.Proofs.YtepaekbjoombpaaGreatDoor
open Go Go.Proofs Go.Eng Go.Run Tab
set_option maxRecDepth 100000
set_option linter.unusedSimpArgs false
set_option linter.unusedVariables false
set_option linter.defProp false
set_option maxHeartbeats 4000000
set_option linter.defProp false
def zm0:=(And.intro (And.intro (And.intro @zbV @by3) (And.intro @zbS @inf3)) (And.intro (And.intro @sz24 @sz3) (And.intro @zbH @Tryz.underlying40)))
theorem groups61 (k:Nat)(cl:Int)(a:Option Addr)(n c:Nat)(es:List En)(day:Int)(h:Eng.Heap)(hr:Row h a (ensV es))(hn:n=es.length)(hl:n≤1000000)(e0:opn k cl es [day]=0) :
    zb Tryz.prog 61 #[.agg #[.int .i64 k,.int .i64 cl,.slice a n c],.int .i64 day] h (fun v h'=>(∃ w,v=.tuple #[w,.int .i64 0]∧∃ h0,Ext h h0∧GrpP k (l8 es day) h0 w h')∧Ext h h'):=by
  (refine ze Tryz.func61 rfl bod61 ?_; simp only [Tryz.ntmps61,Tryz.results61,za,zh,splice,Value.cells,Value.oneCell',Nat.reduceAdd,Nat.reduceSub,Nat.reduceMul,Nat.reduceLeDiff,Int.reduceEq,Nat.reduceEqDiff,zm0])
  refine zb.mono (zfb k cl a n c es _ 1 1 [day] _ ((hr.push _).push _) hn hl (zaB pn1) (by omega)) ?_
  rintro v h1 ⟨x1,H⟩
  have y1:=x1.of_push.of_push
  rcases H with⟨_,g,rfl,hg,hsz⟩ | ⟨h0,_⟩
  case inr=>exact absurd e0 h0
  obtain⟨hc,hd⟩:=zbZ e0
  obtain⟨ha,hl2,hcl,hok,hso,hft⟩:=zbX hc
  simp only [za,Value.cells,Value.oneCell',Nat.reduceAdd,Nat.reduceSub,Nat.reduceMul,Nat.reduceLeDiff,Int.reduceEq,Nat.reduceEqDiff,zm0]
  refine zb.mono (zh6 g k cl a n c es day h1 hg (hr.ext y1) hn (by omega) hok (by omega) hft) ?_
  rintro v h4 G
  have x4:=G.2
  simp only [za,Value.cells,Value.oneCell',Nat.reduceAdd,Nat.reduceSub,Nat.reduceMul,Nat.reduceLeDiff,Int.reduceEq,Nat.reduceEqDiff,zm0]
  exact⟨⟨_,rfl,h1,y1,G⟩,y1.trans x4⟩
end Go.Proofs.YtepaekbjoombpaaGreatDoor
end
