/- The engine: drawn regions by a tree of orders, where operations may write to blocks that the region has made. No condition. -/
import Derived.Test.YtepaekbjoombpaaGreatDoorEngK
set_option linter.unusedVariables false
set_option linter.unusedSimpArgs false
namespace Go.Eng
open Go
attribute [local semireducible] opSem opQS CallsW setD WP
section drawB
variable {l : Option Nat} {P : Program} {ops : Array Oper}
/-- A relation that keeps, and goes on. -/
structure Pre (R : Heap → Heap → Prop) : Prop where
  refl : ∀ h, R h h
  trans : ∀ a b c, R a b → R b c → R a c
theorem Pre.of {R : Heap → Heap → Prop} (hS : Pre R) {a b : Heap} (h : EqH a b) : R a b := by rw [show b = a from h]; exact hS.1 _
def anyB (P : Program) (ops : Array Oper) (R : Heap → Heap → Prop) (G : Nat → Bool) (Q : Act → World → Prop) : Nat → Array Bool → Act → World → Prop
  | 0, listed, a, w => ∀ w1, Rest w w1 → EqH w.heap w1.heap → Region.ready .any ops listed = [] ∧ Q a w1
  | n + 1, listed, a, w => ∀ w1, Rest w w1 → EqH w.heap w1.heap → (Region.ready .any ops listed = [] → Q a w1) ∧
      ∀ i ∈ Region.ready .any ops listed, opD P ops i (fun a' w' => (G i = true → R w1.heap w'.heap) ∧ Rest w1 w' ∧ anyB P ops R G Q n (listed.setIfInBounds i true) a' w') a w1
variable {R : Heap → Heap → Prop} {G : Nat → Bool} {Q : Act → World → Prop}
theorem eqT {a b c : Heap} (x : EqH a b) (y : EqH b c) : EqH a c := Eq.trans y x
theorem anyB_later  {n : Nat} {listed : Array Bool} {a : Act} {w w' : World} (hr : Rest w w') (hR : EqH w.heap w'.heap) (H : anyB P ops R G Q n listed a w) : anyB P ops R G Q n listed a w' := by
  cases n with
  | zero => exact fun w1 h1 h2 => H w1 (hr.trans h1) (eqT hR h2)
  | succ n => exact fun w1 h1 h2 => H w1 (hr.trans h1) (eqT hR h2)

theorem wpAny_of_anyB  {Q' : Exit → Act → World → Prop} (hQ : ∀ a w, Q a w → Q' .normal a w) : ∀ (n : Nat) (listed : Array Bool) (a : Act) (w : World), anyB P ops R G Q n listed a w → wpAnyIn (fen l) 0 P .any ops Q' n listed a w
  | 0, listed, a, w, H => ⟨(H w (Rest.refl w) rfl).1, hQ _ _ (H w (Rest.refl w) rfl).2⟩
  | n + 1, listed, a, w, H => by
    have H := H w (Rest.refl w) rfl
    exact ⟨fun h0 => hQ _ _ (H.1 h0), fun i hi => wpOpIn_mono (fun a' w' h' => wpAny_of_anyB hQ n _ a' w' h'.2.2) (wpOpIn_of_opD (H.2 i hi))⟩

def YdB (P : Program) (ops : Array Oper) (R : Heap → Heap → Prop) (o : Oper) (v : Value) (a : Act) (w : World) : Prop :=
  (Region.wanted o (yielded ops a.tmps) = true ∧ ∀ w', Rest w w' → R w.heap w'.heap → opSw P o a w' (fun v' w'' => v' = v ∧ EqH w'.heap w''.heap)) ∨
  (Region.wanted o (yielded ops a.tmps) = false ∧ v = undef)
theorem YdB_later (hS : Pre R) {o : Oper} {v : Value} {a : Act} {w w' : World} (hr : Rest w w') (hR : R w.heap w'.heap) (H : YdB P ops R o v a w) : YdB P ops R o v a w' := by
  rcases H with ⟨h1, h2⟩ | h
  · exact .inl ⟨h1, fun w1 hr1 hR1 => h2 w1 (hr.trans hr1) (hS.2 _ _ _ hR hR1)⟩
  · exact .inr h
theorem YdB_of {o : Oper} {v : Value} {a a' : Act} {w : World} (H : YdB P ops R o v a w) (he : execOp a'.eval o = execOp a.eval o) (hw : Region.wanted o (yielded ops a'.tmps) = Region.wanted o (yielded ops a.tmps)) : YdB P ops R o v a' w := by
  unfold YdB opSw at *
  rw [he, hw]
  exact H

theorem anyB_first (hS : Pre R) {i : Nat} {oi : Oper} {v : Value} (hi : ops[i]? = some oi) (hsel : ∀ (j : Nat) (o : Oper) cs b, ops[j]? = some o → o.op ≠ .select cs b) (Bk : List Nat) (hBk : ∀ j ∈ Bk, j ≠ i ∧ ∀ oj, ops[j]? = some oj → ∃ e ∈ oj.after, Region.binds .any e = true ∧ (e.on = i ∨ e.on ∈ Bk)) :
    ∀ (fuel : Nat) (listed : Array Bool) (a : Act) (w : World),
      (∀ j oj, ops[j]? = some oj → j ≠ i → listed.getD j true = false → j ∉ Bk → oi.apart ops oj = true ∧ G j = true) → (∀ j ∈ Bk, listed.getD j true = false) →
      i ∈ Region.ready .any ops listed → YdB P ops R oi v a w →
      anyB P ops R G Q fuel (listed.setIfInBounds i true) (a.put oi.dst v) w → anyB P ops R G Q (fuel + 1) listed a w := by
  intro fuel
  have self : ∀ (fuel : Nat) (listed : Array Bool) (a : Act) (w w1 : World), Rest w w1 → EqH w.heap w1.heap → YdB P ops R oi v a w →
      anyB P ops R G Q fuel (listed.setIfInBounds i true) (a.put oi.dst v) w → opD P ops i (fun a' w' => (G i = true → R w1.heap w'.heap) ∧ Rest w1 w' ∧ anyB P ops R G Q fuel (listed.setIfInBounds i true) a' w') a w1 := by
    intro fuel listed a w w1 hr1 hR1 hy H
    unfold opD
    simp only [hi]
    rcases hy with ⟨hw, hy⟩ | ⟨hw, hv⟩
    · simp only [hw, if_true]
      obtain ⟨hd, hs⟩ := hy w1 hr1 (hS.of hR1)
      refine ⟨hd, semPostW_mono ?_ hs⟩
      rintro v' w'' hr ⟨rfl, hR⟩
      exact ⟨fun _ => hS.of hR, hr, anyB_later (hr1.trans hr) (eqT hR1 hR) H⟩
    · simp only [hw]
      subst hv
      exact ⟨fun _ => hS.1 _, Rest.refl _, anyB_later hr1 hR1 H⟩
  induction fuel with
  | zero =>
    intro listed a w _ hbl hr hy H w1 hr1 hR1
    refine ⟨fun h => (by rw [h] at hr; cases hr), fun j hj => ?_⟩
    by_cases hji : j = i
    · subst hji; exact self 0 listed a w w1 hr1 hR1 hy H
    · have := ready_mono hj hji
      rw [(H w1 hr1 hR1).1] at this
      cases this
  | succ fuel ih =>
    intro listed a w hfree hbl hr hy H w1 hr1 hR1
    refine ⟨fun h => (by rw [h] at hr; cases hr), fun j hj => ?_⟩
    by_cases hji : j = i
    · subst hji; exact self (fuel + 1) listed a w w1 hr1 hR1 hy H
    · have h1 := (H w1 hr1 hR1).2 j (ready_mono hj hji)
      obtain ⟨hjun, oj, hoj, hall⟩ := mem_ready.1 hj
      have hnot : j ∉ Bk := fun hjB => by
        obtain ⟨e, he, hb, hon⟩ := (hBk j hjB).2 oj hoj
        have h1 := hall e he hb
        have h0 : listed.getD e.on true = false := by
          rcases hon with hon | hon
          · rw [hon]; exact (mem_ready.1 hr).1
          · exact hbl _ hon
        rcases Nat.lt_or_ge e.on listed.size with h' | h'
        · simp [h'] at h0 h1; rw [h0] at h1; cases h1
        · simp [Array.getElem?_eq_none h'] at h1
      obtain ⟨hap, hGj⟩ := hfree j oj hoj hji hjun hnot
      obtain ⟨hp1, hp2, hp3⟩ := Oper.apart_spec hap
      have hsj : ∀ cs b, oj.op ≠ .select cs b := fun cs b => hsel j oj cs b hoj
      have hsi : ∀ cs b, oi.op ≠ .select cs b := fun cs b => hsel i oi cs b hi
      have hfree' : ∀ k ok, ops[k]? = some ok → k ≠ i → (listed.setIfInBounds j true).getD k true = false →
          k ∉ Bk → oi.apart ops ok = true ∧ G k = true := fun k ok hk hki hun hno => by
        refine hfree k ok hk hki ?_ hno
        by_cases hjk : j = k
        · subst hjk; exact hjun
        · rw [getD_set_ne true hjk] at hun; exact hun
      have hbl' : ∀ k ∈ Bk, (listed.setIfInBounds j true).getD k true = false := fun k hk => by
        have hjk : j ≠ k := fun h => hnot (h ▸ hk)
        rw [getD_set_ne true hjk]
        exact hbl k hk
      have step : ∀ (u : Value) (w' : World), Rest w1 w' → ((G j = true → R w1.heap w'.heap) ∧ Rest w1 w' ∧ anyB P ops R G Q fuel ((listed.setIfInBounds i true).setIfInBounds j true) ((a.put oi.dst v).put oj.dst u) w') →
          (G j = true → R w1.heap w'.heap) ∧ Rest w1 w' ∧ anyB P ops R G Q (fuel + 1) (listed.setIfInBounds j true) (a.put oj.dst u) w' := by
        rintro u w' hr' ⟨hg, hr2, hany⟩
        refine ⟨hg, hr2, ih (listed.setIfInBounds j true) (a.put oj.dst u) w' hfree' hbl' (ready_mono hr (Ne.symm hji)) ?_ ?_⟩
        · exact YdB_of (YdB_later hS (hr1.trans hr2) (hS.2 _ _ _ (hS.of hR1) (hg hGj)) hy) (execOp_put oi hsi a oj.dst u hp3) (wanted_put oi a oj.dst u hp3)
        · rw [Array.setIfInBounds_comm _ _ hji, ← Act.put_comm a v u hp2]
          exact hany
      unfold opD at h1 ⊢
      simp only [hoj] at h1 ⊢
      rw [wanted_put oj a oi.dst v hp1] at h1
      split
      · rename_i hw
        simp only [hw, if_true] at h1
        refine ⟨h1.1, ?_⟩
        have h2 := h1.2
        rw [execOp_put oj hsj a oi.dst v hp1] at h2
        exact semPostW_mono (fun u w' hr' h3 => step u w' hr' h3) h2
      · rename_i hw
        simp only [hw] at h1
        exact step undef w1 (Rest.refl _) h1

theorem anyB_firstP (hS : Pre R) {i : Nat} {oi : Oper} {v : Value} (hi : ops[i]? = some oi) (hsel : ∀ (j : Nat) (o : Oper) cs b, ops[j]? = some o → o.op ≠ .select cs b) (Bk : List Nat) (hBk : ∀ j ∈ Bk, j ≠ i ∧ ∀ oj, ops[j]? = some oj → ∃ e ∈ oj.after, Region.binds .any e = true ∧ (e.on = i ∨ e.on ∈ Bk)) :
    ∀ (fuel : Nat) (listed : Array Bool) (a : Act) (w : World),
      (∀ j oj, ops[j]? = some oj → j ≠ i → listed.getD j true = false → j ∉ Bk → oi.apart ops oj = true) → (∀ j ∈ Bk, listed.getD j true = false) →
      i ∈ Region.ready .any ops listed → YdP P ops oi v a w →
      anyB P ops R G Q fuel (listed.setIfInBounds i true) (a.put oi.dst v) w → anyB P ops R G Q (fuel + 1) listed a w := by
  intro fuel
  have self : ∀ (fuel : Nat) (listed : Array Bool) (a : Act) (w w1 : World), Rest w w1 → EqH w.heap w1.heap → YdP P ops oi v a w →
      anyB P ops R G Q fuel (listed.setIfInBounds i true) (a.put oi.dst v) w → opD P ops i (fun a' w' => (G i = true → R w1.heap w'.heap) ∧ Rest w1 w' ∧ anyB P ops R G Q fuel (listed.setIfInBounds i true) a' w') a w1 := by
    intro fuel listed a w w1 hr1 hR1 hy H
    unfold opD
    simp only [hi]
    rcases hy with ⟨hw, hy⟩ | ⟨hw, hv⟩
    · simp only [hw, if_true]
      obtain ⟨hd, hs⟩ := hy w1 hr1
      refine ⟨hd, semPostW_mono ?_ hs⟩
      rintro v' w'' hr ⟨rfl, hE⟩
      have hR : EqH w1.heap w''.heap := hE
      exact ⟨fun _ => hS.of hR, hr, anyB_later (hr1.trans hr) (eqT hR1 hR) H⟩
    · simp only [hw]
      subst hv
      exact ⟨fun _ => hS.1 _, Rest.refl _, anyB_later hr1 hR1 H⟩
  induction fuel with
  | zero =>
    intro listed a w _ hbl hr hy H w1 hr1 hR1
    refine ⟨fun h => (by rw [h] at hr; cases hr), fun j hj => ?_⟩
    by_cases hji : j = i
    · subst hji; exact self 0 listed a w w1 hr1 hR1 hy H
    · have := ready_mono hj hji
      rw [(H w1 hr1 hR1).1] at this
      cases this
  | succ fuel ih =>
    intro listed a w hfree hbl hr hy H w1 hr1 hR1
    refine ⟨fun h => (by rw [h] at hr; cases hr), fun j hj => ?_⟩
    by_cases hji : j = i
    · subst hji; exact self (fuel + 1) listed a w w1 hr1 hR1 hy H
    · have h1 := (H w1 hr1 hR1).2 j (ready_mono hj hji)
      obtain ⟨hjun, oj, hoj, hall⟩ := mem_ready.1 hj
      have hnot : j ∉ Bk := fun hjB => by
        obtain ⟨e, he, hb, hon⟩ := (hBk j hjB).2 oj hoj
        have h1 := hall e he hb
        have h0 : listed.getD e.on true = false := by
          rcases hon with hon | hon
          · rw [hon]; exact (mem_ready.1 hr).1
          · exact hbl _ hon
        rcases Nat.lt_or_ge e.on listed.size with h' | h'
        · simp [h'] at h0 h1; rw [h0] at h1; cases h1
        · simp [Array.getElem?_eq_none h'] at h1
      have hap := hfree j oj hoj hji hjun hnot
      obtain ⟨hp1, hp2, hp3⟩ := Oper.apart_spec hap
      have hsj : ∀ cs b, oj.op ≠ .select cs b := fun cs b => hsel j oj cs b hoj
      have hsi : ∀ cs b, oi.op ≠ .select cs b := fun cs b => hsel i oi cs b hi
      have hfree' : ∀ k ok, ops[k]? = some ok → k ≠ i → (listed.setIfInBounds j true).getD k true = false →
          k ∉ Bk → oi.apart ops ok = true := fun k ok hk hki hun hno => by
        refine hfree k ok hk hki ?_ hno
        by_cases hjk : j = k
        · subst hjk; exact hjun
        · rw [getD_set_ne true hjk] at hun; exact hun
      have hbl' : ∀ k ∈ Bk, (listed.setIfInBounds j true).getD k true = false := fun k hk => by
        have hjk : j ≠ k := fun h => hnot (h ▸ hk)
        rw [getD_set_ne true hjk]
        exact hbl k hk
      have step : ∀ (u : Value) (w' : World), Rest w1 w' → ((G j = true → R w1.heap w'.heap) ∧ Rest w1 w' ∧ anyB P ops R G Q fuel ((listed.setIfInBounds i true).setIfInBounds j true) ((a.put oi.dst v).put oj.dst u) w') →
          (G j = true → R w1.heap w'.heap) ∧ Rest w1 w' ∧ anyB P ops R G Q (fuel + 1) (listed.setIfInBounds j true) (a.put oj.dst u) w' := by
        rintro u w' hr' ⟨hg, hr2, hany⟩
        refine ⟨hg, hr2, ih (listed.setIfInBounds j true) (a.put oj.dst u) w' hfree' hbl' (ready_mono hr (Ne.symm hji)) ?_ ?_⟩
        · exact YdP_of (YdP_later (hr1.trans hr2) hy) (execOp_put oi hsi a oj.dst u hp3) (wanted_put oi a oj.dst u hp3)
        · rw [Array.setIfInBounds_comm _ _ hji, ← Act.put_comm a v u hp2]
          exact hany
      unfold opD at h1 ⊢
      simp only [hoj] at h1 ⊢
      rw [wanted_put oj a oi.dst v hp1] at h1
      split
      · rename_i hw
        simp only [hw, if_true] at h1
        refine ⟨h1.1, ?_⟩
        have h2 := h1.2
        rw [execOp_put oj hsj a oi.dst v hp1] at h2
        exact semPostW_mono (fun u w' hr' h3 => step u w' hr' h3) h2
      · rename_i hw
        simp only [hw] at h1
        exact step undef w1 (Rest.refl _) h1

end drawB
/-- Blocks below one stay. -/
def RB (m : Nat) (h h' : Heap) : Prop := h.size ≤ h'.size ∧ ∀ b, b < m → h'[b]? = h[b]?
theorem pre_RB (m : Nat) : Pre (RB m) := ⟨fun h => ⟨Nat.le_refl _, fun _ _ => rfl⟩, fun a b c x y => ⟨Nat.le_trans x.1 y.1, fun i hi => (y.2 i hi).trans (x.2 i hi)⟩⟩
theorem RB.of_ext {m : Nat} {h h' : Heap} (x : Ext h h') (hm : m ≤ h.size) : RB m h h' := ⟨x.size, fun b hb => x.old b (by omega)⟩
theorem RB.of_upd {m b : Nat} {h h' : Heap} (u : Upd h h' b) (hm : m ≤ b) : RB m h h' := ⟨by rw [u.size]; exact Nat.le_refl _, fun i hi => u.old i (by omega)⟩
theorem RB.refl (m : Nat) (h : Heap) : RB m h h := (pre_RB m).1 h
theorem RB.trans {m : Nat} {a b c : Heap} (x : RB m a b) (y : RB m b c) : RB m a c := (pre_RB m).2 _ _ _ x y
theorem RB.get {m b : Nat} {h h' : Heap} {o : Obj} (x : RB m h h') (hb : b < m) (hg : h[b]? = some o) : h'[b]? = some o := (x.2 b hb).trans hg
theorem RB.ext {h h' : Heap} (x : RB h.size h h') : Ext h h' := ⟨x.1, fun b hb => x.2 b hb⟩
def oldP (m : Nat) (v : Value) : Prop := match v with | .pointer (some a) => a.block < m | _ => False
def ldB (P : Program) (m : Nat) (o : Op) (e : Env) (h : Heap) (K : Value → Heap → Prop) : Prop := match o with | .load t x => oldP m (ev e x) ∧ loadW P t (ev e x) h K | _ => False
inductive PB where
  | fin
  | load (i : Nat) (r : PB)
  | pure (i : Nat) (r : PB)
  | keep (i : Nat) (r : PB)
  | fork (x y : Nat) (a b : PB)
  | fork3 (x y z : Nat) (a b c : PB)
def PB.size : PB → Nat
  | .fin => 0
  | .load _ r | .pure _ r | .keep _ r => r.size + 1
  | .fork _ _ a _ => a.size + 1
  | .fork3 _ _ _ a _ _ => a.size + 1
section treeB
variable {P : Program} {l : Option Nat} {m : Nat}
def execB (P : Program) (m : Nat) (all : List Oper) : PB → Cont → Env → List Deferred → Heap → Prop
  | .fin, k, e, d, h => k .normal e d h
  | .load i rest, k, e, d, h => match all[i]? with
    | some o => guardW o.guard all e (fun e => ldB P m o.op e h (fun v h' => execB P m all rest k (putE e o.dst v) d h')) (fun e => execB P m all rest k (putE e o.dst undef) d h)
    | none => False
  | .pure i rest, k, e, d, h => match all[i]? with
    | some o => guardW o.guard all e (fun e => opPW P o.op e h (fun v h' => execB P m all rest k (putE e o.dst v) d h')) (fun e => execB P m all rest k (putE e o.dst undef) d h)
    | none => False
  | .keep i rest, k, e, d, h => stO P all all[i]? e h (fun e h'' => RB m h h'' ∧ execB P m all rest k e d h'')
  | .fork x y a b, k, e, d, h => stO P all all[x]? e h (fun e h'' => RB m h h'' ∧ execB P m all a k e d h'') ∧ stO P all all[y]? e h (fun e h'' => RB m h h'' ∧ execB P m all b k e d h'')
  | .fork3 x y z a b c, k, e, d, h => stO P all all[x]? e h (fun e h'' => RB m h h'' ∧ execB P m all a k e d h'') ∧ stO P all all[y]? e h (fun e h'' => RB m h h'' ∧ execB P m all b k e d h'') ∧ stO P all all[z]? e h (fun e h'' => RB m h h'' ∧ execB P m all c k e d h'')
def okB (all : List Oper) : PB → Array Bool → Bool
  | .fin, listed => (Region.ready .any all.toArray listed).isEmpty
  | .load i rest, listed => (Region.ready .any all.toArray listed).contains i && blkOk all listed i (blk all listed i all.length 0 []) &&
      ((List.range all.length).all fun j => j == i || listed.getD j true || (blk all listed i all.length 0 []).contains j || (match all[i]?, all[j]? with | some oi, some oj => oi.apart all.toArray oj | _, _ => true)) &&
      okB all rest (listed.setIfInBounds i true)
  | .pure i rest, listed => (Region.ready .any all.toArray listed).contains i && blkOk all listed i (blk all listed i all.length 0 []) &&
      ((List.range all.length).all fun j => j == i || listed.getD j true || (blk all listed i all.length 0 []).contains j || (match all[i]?, all[j]? with | some oi, some oj => oi.apart all.toArray oj | _, _ => true)) &&
      okB all rest (listed.setIfInBounds i true)
  | .keep i rest, listed => decide (Region.ready .any all.toArray listed = [i]) && okB all rest (listed.setIfInBounds i true)
  | .fork x y a b, listed => decide (Region.ready .any all.toArray listed = [x, y]) && (decide (a.size = b.size) && (okB all a (listed.setIfInBounds x true) && okB all b (listed.setIfInBounds y true)))
  | .fork3 x y z a b c, listed => decide (Region.ready .any all.toArray listed = [x, y, z]) && (decide (a.size = b.size) && (decide (a.size = c.size) && (okB all a (listed.setIfInBounds x true) && (okB all b (listed.setIfInBounds y true) && okB all c (listed.setIfInBounds z true)))))
theorem load_old {t : TypeId} {v : Value} {h h' : Heap} {K : Value → Heap → Prop} (ho : oldP m v) (hR : RB m h h') (H : loadW P t v h K) : ∃ x, K x h ∧ loadW P t v h' (fun y _ => y = x) := by
  unfold loadW at H ⊢
  split at H
  case h_2 => exact H.elim
  rename_i p
  have hc : cellH h' p = cellH h p := by
    cases p with
    | none => rfl
    | some a => unfold cellH; simp only [hR.2 a.block ho]
  have hcs : ∀ n, cellsH h' p n = cellsH h p n := by
    intro n
    cases p with
    | none => rfl
    | some a => unfold cellsH; simp only [hR.2 a.block ho]
  cases hag : aggT P t with
  | none => simp [hag] at H
  | some b =>
    simp only [hag] at H ⊢
    cases b with
    | true =>
      obtain ⟨hi, H⟩ := H
      rw [onC_iff] at H
      obtain ⟨cs, h1, h2⟩ := H
      exact ⟨_, h2, hi, onC_iff.2 ⟨cs, (hcs _).trans h1, rfl⟩⟩
    | false =>
      simp only at H ⊢
      rw [onV_iff] at H
      obtain ⟨x, h1, h2⟩ := H
      exact ⟨_, h2, onV_iff.2 ⟨x, hc.trans h1, rfl⟩⟩
theorem ldB_sound {o : Op} {e : Env} {h : Heap} {K : Value → Heap → Prop} (H : ldB P m o e h K) : noDefer o = true ∧ ∃ v, K v h ∧ ∀ (ty : TypeId) (w : World), RB m h w.heap → (execOp (ev e) { dst := none, op := o, type := ty, pos := "", after := #[], guard := none }).run P w = .ok (.value v) w := by
  unfold ldB at H
  split at H
  · rename_i t x
    obtain ⟨ho, H⟩ := H
    obtain ⟨x0, hk, _⟩ := load_old ho (RB.refl m h) H
    refine ⟨rfl, ?_⟩
    have key : ∀ h', RB m h h' → ∃ y, K y h ∧ loadW P t (ev e x) h' (fun z _ => z = y) := fun h' hR => load_old ho hR H
    obtain ⟨y, hy, hl⟩ := key h (RB.refl m h)
    refine ⟨y, hy, fun ty w hR => ?_⟩
    have : loadW P t (ev e x) h (fun z _ => z = y) := hl
    obtain ⟨z, rfl, hz⟩ := load_old ho hR this
    obtain ⟨u, rfl, hr⟩ := load_sound hz
    have := hr w rfl
    simp only [execOp, Sem.run_bind, this, Result.andThen_ok, Sem.run_pure]
  · exact H.elim
theorem execB_sound {all : List Oper} {k : Cont} {w0 : World} (hsel : Region.noSelect all.toArray = true) : ∀ (t : PB) (listed : Array Bool) (e : Env) (d : List Deferred) (w : World), Rest w0 w →
    okB all t listed = true → execB P m all t k e d w.heap →
    anyB P all.toArray (RB m) (fun _ => true) (fun a w' => k .normal a.tmps.toList a.defers w'.heap ∧ Rest w0 w') t.size listed ⟨e.toArray, d⟩ w
  | .fin, listed, e, d, w, hr, hok, H => fun w1 hr1 hR1 => by
    refine ⟨by simpa [okB] using hok, ?_, hr.trans hr1⟩
    rw [show w1.heap = w.heap from hR1]
    unfold execB at H
    simpa using H
  | .load i rest, listed, e, d, w, hr, hok, H => by
    simp only [okB, Bool.and_eq_true] at hok
    obtain ⟨⟨⟨hready, hbk⟩, hG⟩, hok⟩ := hok
    unfold execB at H
    cases hi : all[i]? with
    | none => simp [hi] at H
    | some o =>
      simp only [hi] at H
      have hi' : all.toArray[i]? = some o := by simpa using hi
      obtain ⟨Bk, hBke⟩ : ∃ Bk, Bk = blk all listed i all.length 0 [] := ⟨_, rfl⟩
      rw [← hBke] at hbk hG
      have hb1 : ∀ j ∈ Bk, listed.getD j true = false := fun j hj => by
        have := List.all_eq_true.1 hbk j hj
        simp only [Bool.and_eq_true, Bool.not_eq_true'] at this
        exact this.1.1
      have hb2 : ∀ j ∈ Bk, j ≠ i ∧ ∀ oj, all.toArray[j]? = some oj → ∃ e ∈ oj.after, Region.binds .any e = true ∧ (e.on = i ∨ e.on ∈ Bk) := fun j hj => by
        have := List.all_eq_true.1 hbk j hj
        simp only [Bool.and_eq_true, bne_iff_ne, ne_eq] at this
        refine ⟨this.1.2, fun oj hoj => ?_⟩
        have hj2 : all[j]? = some oj := by simpa using hoj
        have h2 := this.2
        rw [hj2] at h2
        obtain ⟨e, he, hb⟩ := Array.any_eq_true'.1 h2
        simp only [Bool.and_eq_true, Bool.or_eq_true, beq_iff_eq, List.contains_eq_mem, decide_eq_true_eq] at hb
        exact ⟨e, he, hb.1, hb.2⟩
      have hfr : ∀ j oj, all.toArray[j]? = some oj → j ≠ i → listed.getD j true = false → j ∉ Bk → o.apart all.toArray oj = true := by
        intro j oj hj hne hun hno
        have hlt : j < all.length := by have := (Array.getElem?_eq_some_iff.1 hj).1; simpa using this
        have := List.all_eq_true.1 hG j (List.mem_range.2 hlt)
        have hj2 : all[j]? = some oj := by simpa using hj
        simp only [hi, hj2, Bool.or_eq_true, Bool.and_eq_true, beq_iff_eq, hne, false_or, hun, Bool.false_eq_true, List.contains_eq_mem, decide_eq_true_eq, hno] at this
        exact this
      have hrdy : i ∈ Region.ready .any all.toArray listed := by simpa using hready
      rcases guard_sound H o rfl with ⟨hw, hA⟩ | ⟨hw, hB⟩
      · obtain ⟨hd, v, hk, hv⟩ := ldB_sound hA
        refine anyB_first (pre_RB m) hi' (Region.noSelect_spec hsel) Bk hb2 rest.size listed _ w (fun j oj a b c d => ⟨hfr j oj a b c d, rfl⟩) hb1 hrdy (v := v) ?_ ?_
        · refine .inl ⟨hw, fun w' hr' hR => ⟨hd, ?_⟩⟩
          rw [eval_ev, execOp_only, hv _ w' hR]
          exact ⟨⟨rfl, rfl⟩, Rest.refl _⟩
        · rw [put_putE]
          exact execB_sound hsel rest _ _ d w hr hok hk
      · refine anyB_first (pre_RB m) hi' (Region.noSelect_spec hsel) Bk hb2 rest.size listed _ w (fun j oj a b c d => ⟨hfr j oj a b c d, rfl⟩) hb1 hrdy (v := undef) (.inr ⟨hw, rfl⟩) ?_
        rw [put_putE]
        exact execB_sound hsel rest _ _ d w hr hok hB
  | .pure i rest, listed, e, d, w, hr, hok, H => by
    simp only [okB, Bool.and_eq_true] at hok
    obtain ⟨⟨⟨hready, hbk⟩, hG⟩, hok⟩ := hok
    unfold execB at H
    cases hi : all[i]? with
    | none => simp [hi] at H
    | some o =>
      simp only [hi] at H
      have hi' : all.toArray[i]? = some o := by simpa using hi
      obtain ⟨Bk, hBke⟩ : ∃ Bk, Bk = blk all listed i all.length 0 [] := ⟨_, rfl⟩
      rw [← hBke] at hbk hG
      have hb1 : ∀ j ∈ Bk, listed.getD j true = false := fun j hj => by
        have := List.all_eq_true.1 hbk j hj
        simp only [Bool.and_eq_true, Bool.not_eq_true'] at this
        exact this.1.1
      have hb2 : ∀ j ∈ Bk, j ≠ i ∧ ∀ oj, all.toArray[j]? = some oj → ∃ e ∈ oj.after, Region.binds .any e = true ∧ (e.on = i ∨ e.on ∈ Bk) := fun j hj => by
        have := List.all_eq_true.1 hbk j hj
        simp only [Bool.and_eq_true, bne_iff_ne, ne_eq] at this
        refine ⟨this.1.2, fun oj hoj => ?_⟩
        have hj2 : all[j]? = some oj := by simpa using hoj
        have h2 := this.2
        rw [hj2] at h2
        obtain ⟨e, he, hb⟩ := Array.any_eq_true'.1 h2
        simp only [Bool.and_eq_true, Bool.or_eq_true, beq_iff_eq, List.contains_eq_mem, decide_eq_true_eq] at hb
        exact ⟨e, he, hb.1, hb.2⟩
      have hfr : ∀ j oj, all.toArray[j]? = some oj → j ≠ i → listed.getD j true = false → j ∉ Bk → o.apart all.toArray oj = true := by
        intro j oj hj hne hun hno
        have hlt : j < all.length := by have := (Array.getElem?_eq_some_iff.1 hj).1; simpa using this
        have := List.all_eq_true.1 hG j (List.mem_range.2 hlt)
        have hj2 : all[j]? = some oj := by simpa using hj
        simp only [hi, hj2, Bool.or_eq_true, Bool.and_eq_true, beq_iff_eq, hne, false_or, hun, Bool.false_eq_true, List.contains_eq_mem, decide_eq_true_eq, hno] at this
        exact this
      have hrdy : i ∈ Region.ready .any all.toArray listed := by simpa using hready
      rcases guard_sound H o rfl with ⟨hw, hA⟩ | ⟨hw, hB⟩
      · obtain ⟨hd, v, hk, hv⟩ := opPW_sound (ty := o.type) hA
        refine anyB_firstP (pre_RB m) hi' (Region.noSelect_spec hsel) Bk hb2 rest.size listed _ w hfr hb1 hrdy (v := v) ?_ ?_
        · refine .inl ⟨hw, fun w' hr' => ⟨hd, ?_⟩⟩
          rw [eval_ev, execOp_only, hv w']
          exact ⟨⟨rfl, rfl⟩, Rest.refl _⟩
        · rw [put_putE]
          exact execB_sound hsel rest _ _ d w hr hok hk
      · refine anyB_firstP (pre_RB m) hi' (Region.noSelect_spec hsel) Bk hb2 rest.size listed _ w hfr hb1 hrdy (v := undef) (.inr ⟨hw, rfl⟩) ?_
        rw [put_putE]
        exact execB_sound hsel rest _ _ d w hr hok hB
  | .keep i rest, listed, e, d, w, hr, hok, H => by
    intro w1 hr1 hR1
    simp only [okB, Bool.and_eq_true, decide_eq_true_eq] at hok
    obtain ⟨h1, hok⟩ := hok
    unfold execB at H
    rw [← show w1.heap = w.heap from hR1] at H
    rw [h1]
    refine ⟨fun h => by simp at h, fun q hq => ?_⟩
    have hq : q = i := by simpa using hq
    subst hq
    refine stO_sound (G := fun _ => true) (Kx := fun e h'' => execB P m all rest k e d h'') (stO_mono H fun e h hk => ⟨fun _ => hk.1, hk.2⟩) fun e2 w2 hr2 K2 => ?_
    exact execB_sound hsel rest _ _ d w2 (hr.trans (hr1.trans hr2)) hok K2
  | .fork x y a b, listed, e, d, w, hr, hok, H => by
    intro w1 hr1 hR1
    simp only [okB, Bool.and_eq_true, decide_eq_true_eq] at hok
    obtain ⟨h1, h2, o1, o2⟩ := hok
    unfold execB at H
    rw [← show w1.heap = w.heap from hR1] at H
    obtain ⟨A, B⟩ := H
    rw [h1]
    refine ⟨fun h => by simp at h, fun q hq => ?_⟩
    have hq : q = x ∨ q = y := by simpa using hq
    rcases hq with rfl | rfl
    · refine stO_sound (G := fun _ => true) (Kx := fun e h'' => execB P m all a k e d h'') (stO_mono A fun e h hk => ⟨fun _ => hk.1, hk.2⟩) fun e2 w2 hr2 K2 => ?_
      exact execB_sound hsel a _ _ d w2 (hr.trans (hr1.trans hr2)) o1 K2
    · refine stO_sound (G := fun _ => true) (Kx := fun e h'' => execB P m all b k e d h'') (stO_mono B fun e h hk => ⟨fun _ => hk.1, hk.2⟩) fun e2 w2 hr2 K2 => ?_
      have := execB_sound (w0 := w0) hsel b _ _ d w2 (hr.trans (hr1.trans hr2)) o2 K2
      rw [← h2] at this
      exact this
  | .fork3 x y z a b c, listed, e, d, w, hr, hok, H => by
    intro w1 hr1 hR1
    simp only [okB, Bool.and_eq_true, decide_eq_true_eq] at hok
    obtain ⟨h1, h2, h3, o1, o2, o3⟩ := hok
    unfold execB at H
    rw [← show w1.heap = w.heap from hR1] at H
    obtain ⟨A, B, C⟩ := H
    rw [h1]
    refine ⟨fun h => by simp at h, fun q hq => ?_⟩
    have hq : q = x ∨ q = y ∨ q = z := by simpa using hq
    rcases hq with rfl | rfl | rfl
    · refine stO_sound (G := fun _ => true) (Kx := fun e h'' => execB P m all a k e d h'') (stO_mono A fun e h hk => ⟨fun _ => hk.1, hk.2⟩) fun e2 w2 hr2 K2 => ?_
      exact execB_sound hsel a _ _ d w2 (hr.trans (hr1.trans hr2)) o1 K2
    · refine stO_sound (G := fun _ => true) (Kx := fun e h'' => execB P m all b k e d h'') (stO_mono B fun e h hk => ⟨fun _ => hk.1, hk.2⟩) fun e2 w2 hr2 K2 => ?_
      have := execB_sound (w0 := w0) hsel b _ _ d w2 (hr.trans (hr1.trans hr2)) o2 K2
      rw [← h2] at this
      exact this
    · refine stO_sound (G := fun _ => true) (Kx := fun e h'' => execB P m all c k e d h'') (stO_mono C fun e h hk => ⟨fun _ => hk.1, hk.2⟩) fun e2 w2 hr2 K2 => ?_
      have := execB_sound (w0 := w0) hsel c _ _ d w2 (hr.trans (hr1.trans hr2)) o3 K2
      rw [← h3] at this
      exact this
/-- A drawn region by a tree of orders; blocks below m stay. -/
theorem WP_treeB (hm : P.follows .mixedOrders = true) (m : Nat) {id : Nat} {all : List Oper} {k : Cont} {e : Env} {d : List Deferred} {h : Heap} (t : PB)
    (hsel : Region.noSelect all.toArray = true) (hlen : t.size = all.length) (hok : okB all t (Array.replicate all.length false) = true)
    (H : execB P m all t k e d h) : WP l P (.region id all.toArray true) k e d h := by
  unfold WP
  intro w hw
  subst hw
  refine wpIn_region_any hm ?_
  have h1 := execB_sound (w0 := w) hsel t _ e d { w with drawn := w.drawn + 1 } ⟨rfl, rfl, rfl⟩ hok H
  rw [hlen] at h1
  have h2 := wpAny_of_anyB (l := l) (Q' := fun x a w' => k x a.tmps.toList a.defers w'.heap ∧ Rest w w') (fun a w' hq => hq) _ _ _ _ h1
  simpa using h2
variable {all : List Oper} {rest : PB} {k : Cont} {e : Env} {d : List Deferred} {h : Heap} {dst : Option Tmp} {op : Op} {ty : TypeId} {pos : String} {after : Array Edge} {i x y z : Nat} {a b c : PB}
def setB (P : Program) (m : Nat) (all : List Oper) (rest : PB) (k : Cont) (dst : Option Tmp) (e : Env) (d : List Deferred) : Value → Heap → Prop := fun v h => execB P m all rest k (putE e dst v) d h
theorem setB_eq {v : Value} : setB P m all rest k dst e d v h = execB P m all rest k (putE e dst v) d h := eqi rfl
def stBl (P : Program) (m : Nat) (o : Option Oper) (all : List Oper) (rest : PB) (k : Cont) (e : Env) (d : List Deferred) (h : Heap) : Prop :=
  match o with
  | some o => guardW o.guard all e (fun e => ldB P m o.op e h (fun v h' => setB P m all rest k o.dst e d v h')) (fun e => execB P m all rest k (putE e o.dst undef) d h)
  | none => False
def stBp (P : Program) (m : Nat) (o : Option Oper) (all : List Oper) (rest : PB) (k : Cont) (e : Env) (d : List Deferred) (h : Heap) : Prop :=
  match o with
  | some o => guardW o.guard all e (fun e => opPW P o.op e h (fun v h' => setB P m all rest k o.dst e d v h')) (fun e => execB P m all rest k (putE e o.dst undef) d h)
  | none => False
theorem execB_fin : execB P m all .fin k e d h = k .normal e d h := eqi rfl
theorem execB_load : execB P m all (.load i rest) k e d h = stBl P m all[i]? all rest k e d h := by simp only [execB, stBl, setB]
theorem execB_pure : execB P m all (.pure i rest) k e d h = stBp P m all[i]? all rest k e d h := by simp only [execB, stBp, setB]
def gB (v : Value) (s : Tmp) (want : Bool) (F : Env → Prop) (all : List Oper) (P : Program) (m : Nat) (rest : PB) (k : Cont) (dst : Option Tmp) (e : Env) (d : List Deferred) (h : Heap) : Prop :=
  boolW v (fun b => if b = want then F (e.set s (.bool b)) else execB P m all rest k (putE (e.set s (.bool b)) dst undef) d h) (execB P m all rest k (putE e dst undef) d h)
def gBo (s : Option Tmp) (want : Bool) (F : Env → Prop) (all : List Oper) (P : Program) (m : Nat) (rest : PB) (k : Cont) (dst : Option Tmp) (e : Env) (d : List Deferred) (h : Heap) : Prop :=
  match s with | some s => gB (e.getD s undef) s want F all P m rest k dst e d h | none => execB P m all rest k (putE e dst undef) d h
theorem ldB_load {t : TypeId} {x : Operand} {K : Value → Heap → Prop} : ldB P m (.load t x) e h K = (oldP m (ev e x) ∧ loadW P t (ev e x) h K) := eqi rfl
theorem oldP_ptr {b o : Nat} {s : _} : oldP m (.pointer (some ⟨b, o, s⟩)) = (b < m) := eqi rfl
theorem stBl_plain : stBl P m (some ⟨dst, op, ty, pos, after, none⟩) all rest k e d h = ldB P m op e h (setB P m all rest k dst e d) := by simp only [stBl, guardW]
theorem stBp_plain : stBp P m (some ⟨dst, op, ty, pos, after, none⟩) all rest k e d h = opPW P op e h (setB P m all rest k dst e d) := by simp only [stBp, guardW]
theorem stBl_guard {j : Nat} {want : Bool} : stBl P m (some ⟨dst, op, ty, pos, after, some (j, want)⟩) all rest k e d h = gBo (gslot all j) want (fun e => ldB P m op e h (setB P m all rest k dst e d)) all P m rest k dst e d h := by
  simp only [stBl, guardW, gBo]; cases gslot all j <;> rfl
theorem stBp_guard {j : Nat} {want : Bool} : stBp P m (some ⟨dst, op, ty, pos, after, some (j, want)⟩) all rest k e d h = gBo (gslot all j) want (fun e => opPW P op e h (setB P m all rest k dst e d)) all P m rest k dst e d h := by
  simp only [stBp, guardW, gBo]; cases gslot all j <;> rfl
theorem gBo_some {s : Tmp} {want : Bool} {F : Env → Prop} : gBo (some s) want F all P m rest k dst e d h = gB (e.getD s undef) s want F all P m rest k dst e d h := eqi rfl
theorem gB_tt {s : Tmp} {F : Env → Prop} : gB (.bool true) s true F all P m rest k dst e d h = F (e.set s (.bool true)) := by simp [gB, boolW]
theorem gB_ff {s : Tmp} {F : Env → Prop} : gB (.bool false) s false F all P m rest k dst e d h = F (e.set s (.bool false)) := by simp [gB, boolW]
theorem gB_tf {s : Tmp} {F : Env → Prop} : gB (.bool true) s false F all P m rest k dst e d h = execB P m all rest k (putE (e.set s (.bool true)) dst undef) d h := by simp [gB, boolW]
theorem gB_ft {s : Tmp} {F : Env → Prop} : gB (.bool false) s true F all P m rest k dst e d h = execB P m all rest k (putE (e.set s (.bool false)) dst undef) d h := by simp [gB, boolW]
theorem gB_undef {s : Tmp} {w : Bool} {vs : Array Value} {F : Env → Prop} : gB (.tuple vs) s w F all P m rest k dst e d h = execB P m all rest k (putE e dst undef) d h := by simp [gB, boolW]
theorem execB_keep (H : stO P all all[i]? e h (fun e h'' => RB m h h'' ∧ execB P m all rest k e d h'')) : execB P m all (.keep i rest) k e d h := H
theorem execB_fork (A : stO P all all[x]? e h (fun e h'' => RB m h h'' ∧ execB P m all a k e d h'')) (B : stO P all all[y]? e h (fun e h'' => RB m h h'' ∧ execB P m all b k e d h'')) : execB P m all (.fork x y a b) k e d h := ⟨A, B⟩
theorem execB_fork3 (A : stO P all all[x]? e h (fun e h'' => RB m h h'' ∧ execB P m all a k e d h'')) (B : stO P all all[y]? e h (fun e h'' => RB m h h'' ∧ execB P m all b k e d h'')) (C : stO P all all[z]? e h (fun e h'' => RB m h h'' ∧ execB P m all c k e d h'')) : execB P m all (.fork3 x y z a b c) k e d h := ⟨A, B, C⟩
set_option linter.defProp false
def treeB := And.intro (And.intro (And.intro @execB_fin (And.intro @execB_load @execB_pure)) (And.intro (And.intro @stBl_plain @stBp_plain) (And.intro @stBl_guard @stBp_guard)))
  (And.intro (And.intro (And.intro @gBo_some @setB_eq) (And.intro @ldB_load @oldP_ptr)) (And.intro (And.intro @gB_tt @gB_ff) (And.intro @gB_tf (And.intro @gB_ft @gB_undef))))
end treeB
end Go.Eng
