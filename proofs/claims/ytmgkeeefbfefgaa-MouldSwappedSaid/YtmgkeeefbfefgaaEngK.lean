/- The engine: drawn regions by a tree of orders. No condition. -/
import Derived.Test.YtmgkeeefbfefgaaEngI
set_option linter.unusedVariables false
set_option linter.unusedSimpArgs false
namespace Go.Eng
open Go
attribute [local semireducible] opSem opQS CallsW setD WP
/-- How the operations of a drawn region are taken: quiet ones, ones whose values hang on no heap, ones alone, ones alone that keep R, and two that may come in either order. -/
inductive PT where
  | fin
  | quiet (i : Nat) (r : PT)
  | pure (i : Nat) (r : PT)
  | one (i : Nat) (r : PT)
  | keep (i : Nat) (r : PT)
  | fork (x y : Nat) (a b : PT)
  | fork2 (x y : Nat) (u v : Bool) (a b : PT)
  | fork3 (x y z : Nat) (u v w : Bool) (a b c : PT)
def PT.size : PT → Nat
  | .fin => 0
  | .quiet _ r | .pure _ r | .one _ r | .keep _ r => r.size + 1
  | .fork _ _ a _ => a.size + 1
  | .fork2 _ _ _ _ a _ => a.size + 1
  | .fork3 _ _ _ _ _ _ a _ _ => a.size + 1
def PT.G : PT → Nat → Bool
  | .fin, _ => true
  | .quiet _ r, j | .pure _ r, j | .keep _ r, j => r.G j
  | .one i r, j => !(i == j) && r.G j
  | .fork _ _ a b, j => a.G j && b.G j
  | .fork2 x y u v a b, j => (u || !(x == j)) && ((v || !(y == j)) && (a.G j && b.G j))
  | .fork3 x y z u v w a b c, j => (u || !(x == j)) && ((v || !(y == j)) && ((w || !(z == j)) && (a.G j && (b.G j && c.G j))))
section tree
variable {P : Program} {l : Option Nat} {R : Heap → Heap → Prop} {G : Nat → Bool}
theorem opD_any {all : List Oper} {i : Nat} {o : Oper} {e : Env} {d : List Deferred} {w1 : World} {Kx : Env → Heap → Prop} {Kf : Act → World → Prop} (hi : all[i]? = some o)
    (H : guardW o.guard all e (fun e => opW P o.op o.type e w1.heap (fun v h'' => (G i = true → R w1.heap h'') ∧ Kx (putE e o.dst v) h'')) (fun e => (G i = true → R w1.heap w1.heap) ∧ Kx (putE e o.dst undef) w1.heap)) (fin : ∀ e' w', Rest w1 w' → Kx e' w'.heap → Kf ⟨e'.toArray, d⟩ w') :
    opD P all.toArray i (fun a' w' => (G i = true → R w1.heap w'.heap) ∧ Rest w1 w' ∧ Kf a' w') ⟨e.toArray, d⟩ w1 := by
  have hi' : all.toArray[i]? = some o := by simpa using hi
  unfold opD
  simp only [hi']
  rcases guard_sound H o rfl with ⟨hw, hA⟩ | ⟨hw, hB⟩
  · simp only [hw, if_true]
    have h1 := opW_sound hA
    unfold opSem at h1
    refine ⟨h1.1, ?_⟩
    have h2 := h1.2 w1 rfl
    rw [eval_ev, execOp_only]
    have fin' : ∀ v w', Rest w1 w' → ((G i = true → R w1.heap w'.heap) ∧ Kx (putE e o.dst v) w'.heap) → (G i = true → R w1.heap w'.heap) ∧ Rest w1 w' ∧ Kf ((Act.mk e.toArray d).put o.dst v) w' := by
      intro v w' hr' hk
      refine ⟨hk.1, hr', ?_⟩
      rw [put_putE]
      exact fin _ _ hr' hk.2
    unfold semPost at h2
    unfold semPostW
    split at h2
    · exact ⟨fin' _ _ h2.2 h2.1, h2.2⟩
    · exact ⟨fin' _ _ h2.2 h2.1, h2.2⟩
    · exact ⟨h2.1, Calls.mono h2.2 fun x w'' ⟨v, hx, hv, hr''⟩ => ⟨v, hx, fin' v w'' (h2.1.trans hr'') hv, hr''⟩⟩
    · exact ⟨h2.1, RoundIn.mono h2.2 fun x w'' ⟨v, hx, hv, hr''⟩ => ⟨v, hx, fin' v w'' (h2.1.trans hr'') hv, hr''⟩⟩
    · exact h2.elim
  · simp only [hw]
    refine ⟨hB.1, Rest.refl _, ?_⟩
    rw [put_putE]
    exact fin _ _ (Rest.refl _) hB.2
def stO (P : Program) (all : List Oper) (o : Option Oper) (e : Env) (h : Heap) (K : Env → Heap → Prop) : Prop :=
  match o with
  | some o => guardW o.guard all e (fun e => opW P o.op o.type e h (fun v h' => K (putE e o.dst v) h')) (fun e => K (putE e o.dst undef) h)
  | none => False
def execT (P : Program) (R : Heap → Heap → Prop) (all : List Oper) : PT → Cont → Env → List Deferred → Heap → Prop
  | .fin, k, e, d, h => ∀ h', R h h' → k .normal e d h'
  | .quiet i rest, k, e, d, h => match all[i]? with
    | some o => guardW o.guard all e (fun e => opQW P R o.op o.type e h (fun v h' => execT P R all rest k (putE e o.dst v) d h')) (fun e => execT P R all rest k (putE e o.dst undef) d h)
    | none => False
  | .pure i rest, k, e, d, h => match all[i]? with
    | some o => guardW o.guard all e (fun e => opPW P o.op e h (fun v h' => execT P R all rest k (putE e o.dst v) d h')) (fun e => execT P R all rest k (putE e o.dst undef) d h)
    | none => False
  | .one i rest, k, e, d, h => ∀ h', R h h' → stO P all all[i]? e h' (fun e h'' => execT P R all rest k e d h'')
  | .keep i rest, k, e, d, h => ∀ h', R h h' → stO P all all[i]? e h' (fun e h'' => R h' h'' ∧ execT P R all rest k e d h'')
  | .fork x y a b, k, e, d, h => ∀ h', R h h' → stO P all all[x]? e h' (fun e h'' => R h' h'' ∧ execT P R all a k e d h'') ∧ stO P all all[y]? e h' (fun e h'' => R h' h'' ∧ execT P R all b k e d h'')
  | .fork2 x y u v a b, k, e, d, h => ∀ h', R h h' → stO P all all[x]? e h' (fun e h'' => (u = true → R h' h'') ∧ execT P R all a k e d h'') ∧ stO P all all[y]? e h' (fun e h'' => (v = true → R h' h'') ∧ execT P R all b k e d h'')
  | .fork3 x y z u v t a b c, k, e, d, h => ∀ h', R h h' → stO P all all[x]? e h' (fun e h'' => (u = true → R h' h'') ∧ execT P R all a k e d h'') ∧ stO P all all[y]? e h' (fun e h'' => (v = true → R h' h'') ∧ execT P R all b k e d h'') ∧ stO P all all[z]? e h' (fun e h'' => (t = true → R h' h'') ∧ execT P R all c k e d h'')
def okT (G : Nat → Bool) (all : List Oper) : PT → Array Bool → Bool
  | .fin, listed => (Region.ready .any all.toArray listed).isEmpty
  | .quiet i rest, listed => (Region.ready .any all.toArray listed).contains i && blkOk all listed i (blk all listed i all.length 0 []) &&
      ((List.range all.length).all fun j => j == i || listed.getD j true || (blk all listed i all.length 0 []).contains j || (G j && (match all[i]?, all[j]? with | some oi, some oj => oi.apart all.toArray oj | _, _ => true))) &&
      okT G all rest (listed.setIfInBounds i true)
  | .pure i rest, listed => (Region.ready .any all.toArray listed).contains i && blkOk all listed i (blk all listed i all.length 0 []) &&
      ((List.range all.length).all fun j => j == i || listed.getD j true || (blk all listed i all.length 0 []).contains j || (match all[i]?, all[j]? with | some oi, some oj => oi.apart all.toArray oj | _, _ => true)) &&
      okT G all rest (listed.setIfInBounds i true)
  | .one i rest, listed => !(G i) && decide (Region.ready .any all.toArray listed = [i]) && okT G all rest (listed.setIfInBounds i true)
  | .keep i rest, listed => decide (Region.ready .any all.toArray listed = [i]) && okT G all rest (listed.setIfInBounds i true)
  | .fork x y a b, listed => decide (Region.ready .any all.toArray listed = [x, y]) && (decide (a.size = b.size) && (okT G all a (listed.setIfInBounds x true) && okT G all b (listed.setIfInBounds y true)))
  | .fork2 x y u v a b, listed => (u || !(G x)) && ((v || !(G y)) && (decide (Region.ready .any all.toArray listed = [x, y]) && (decide (a.size = b.size) && (okT G all a (listed.setIfInBounds x true) && okT G all b (listed.setIfInBounds y true)))))
  | .fork3 x y z u v t a b c, listed => (u || !(G x)) && ((v || !(G y)) && ((t || !(G z)) && (decide (Region.ready .any all.toArray listed = [x, y, z]) && (decide (a.size = b.size) && (decide (a.size = c.size) && (okT G all a (listed.setIfInBounds x true) && (okT G all b (listed.setIfInBounds y true) && okT G all c (listed.setIfInBounds z true))))))))
theorem stO_sound {all : List Oper} {i : Nat} {e : Env} {d : List Deferred} {w1 : World} {Kx : Env → Heap → Prop} {Kf : Act → World → Prop} (H : stO P all all[i]? e w1.heap (fun e h'' => (G i = true → R w1.heap h'') ∧ Kx e h'')) (fin : ∀ e' w', Rest w1 w' → Kx e' w'.heap → Kf ⟨e'.toArray, d⟩ w') :
    opD P all.toArray i (fun a' w' => (G i = true → R w1.heap w'.heap) ∧ Rest w1 w' ∧ Kf a' w') ⟨e.toArray, d⟩ w1 := by
  cases hi : all[i]? with
  | none => rw [hi] at H; exact H.elim
  | some o => rw [hi] at H; exact opD_any (Kx := Kx) hi H fin
theorem guardW_mono {gd : Option (Nat × Bool)} {all : List Oper} {e : Env} {A A' B B' : Env → Prop} (ha : ∀ e, A e → A' e) (hb : ∀ e, B e → B' e) (H : guardW gd all e A B) : guardW gd all e A' B' := by
  cases gd with
  | none => unfold guardW at H ⊢; exact ha _ H
  | some p =>
    obtain ⟨j, want⟩ := p
    unfold guardW at H ⊢
    simp only at H ⊢
    cases hj : gslot all j with
    | none => simp only [hj] at H ⊢; exact hb _ H
    | some t =>
      simp only [hj] at H ⊢
      unfold boolW at H ⊢
      cases hv : e.getD t undef with
      | bool b =>
        simp only [hv] at H ⊢
        refine ⟨fun h1 => ?_, fun h1 => ?_⟩
        · have h2 := H.1 h1
          by_cases hw : true = want
          · rw [if_pos hw] at h2 ⊢; exact ha _ h2
          · rw [if_neg hw] at h2 ⊢; exact hb _ h2
        · have h2 := H.2 h1
          by_cases hw : false = want
          · rw [if_pos hw] at h2 ⊢; exact ha _ h2
          · rw [if_neg hw] at h2 ⊢; exact hb _ h2
      | _ => first | (simp only [hv] at H ⊢; done) | (simp only [hv] at H ⊢; exact hb _ H)
theorem stO_mono {all : List Oper} {o : Option Oper} {e : Env} {h : Heap} {K K' : Env → Heap → Prop} (H : stO P all o e h K) (hk : ∀ e h, K e h → K' e h) : stO P all o e h K' := by
  cases o with
  | none => exact H.elim
  | some o => exact guardW_mono (fun e he => opW_mono (fun v h hv => hk _ _ hv) he) (fun e he => hk _ _ he) H
theorem execT_sound (hS : Sta R) {all : List Oper} {k : Cont} {w0 : World} (hsel : Region.noSelect all.toArray = true) : ∀ (t : PT) (listed : Array Bool) (e : Env) (d : List Deferred) (w : World), Rest w0 w →
    okT G all t listed = true → execT P R all t k e d w.heap →
    anyR P all.toArray R G (fun a w' => k .normal a.tmps.toList a.defers w'.heap ∧ Rest w0 w') t.size listed ⟨e.toArray, d⟩ w
  | .fin, listed, e, d, w, hr, hok, H => fun w1 hr1 hR1 => by
    refine ⟨by simpa [okT] using hok, ?_, hr.trans hr1⟩
    simpa using H _ hR1
  | .quiet i rest, listed, e, d, w, hr, hok, H => by
    simp only [okT, Bool.and_eq_true] at hok
    obtain ⟨⟨⟨hready, hbk⟩, hG⟩, hok⟩ := hok
    unfold execT at H
    cases hi : all[i]? with
    | none => simp [hi] at H
    | some o =>
      simp only [hi] at H
      have hi' : all.toArray[i]? = some o := by simpa using hi
      obtain ⟨Bk, hBke⟩ : ∃ Bk, Bk = blk all listed i all.length 0 [] := ⟨_, rfl⟩
      rw [← hBke] at hbk hG
      have hb1 : ∀ j ∈ Bk, listed.getD j true = false := fun j hj => by
        have := List.all_eq_true.1 hbk j hj
        simp only [Bool.and_eq_true, Bool.not_eq_true'] at this
        exact this.1.1
      have hb2 : ∀ j ∈ Bk, j ≠ i ∧ ∀ oj, all.toArray[j]? = some oj → ∃ e ∈ oj.after, Region.binds .any e = true ∧ (e.on = i ∨ e.on ∈ Bk) := fun j hj => by
        have := List.all_eq_true.1 hbk j hj
        simp only [Bool.and_eq_true, bne_iff_ne, ne_eq] at this
        refine ⟨this.1.2, fun oj hoj => ?_⟩
        have hj2 : all[j]? = some oj := by simpa using hoj
        have h2 := this.2
        rw [hj2] at h2
        obtain ⟨e, he, hb⟩ := Array.any_eq_true'.1 h2
        simp only [Bool.and_eq_true, Bool.or_eq_true, beq_iff_eq, List.contains_eq_mem, decide_eq_true_eq] at hb
        exact ⟨e, he, hb.1, hb.2⟩
      have hfr : ∀ j oj, all.toArray[j]? = some oj → j ≠ i → listed.getD j true = false → j ∉ Bk → o.apart all.toArray oj = true ∧ G j = true := by
        intro j oj hj hne hun hno
        have hlt : j < all.length := by have := (Array.getElem?_eq_some_iff.1 hj).1; simpa using this
        have := List.all_eq_true.1 hG j (List.mem_range.2 hlt)
        have hj2 : all[j]? = some oj := by simpa using hj
        simp only [hi, hj2, Bool.or_eq_true, Bool.and_eq_true, beq_iff_eq, hne, false_or, hun, Bool.false_eq_true, List.contains_eq_mem, decide_eq_true_eq, hno] at this
        exact ⟨this.2, this.1⟩
      have hrdy : i ∈ Region.ready .any all.toArray listed := by simpa using hready
      rcases guard_sound H o rfl with ⟨hw, hA⟩ | ⟨hw, hB⟩
      · have hq := opQW_sound hS hA
        unfold opQS at hq
        obtain ⟨v, hv, hk⟩ := hq
        refine anyR_first hS hi' (Region.noSelect_spec hsel) Bk hb2 rest.size listed _ w hfr hb1 hrdy (v := v) ?_ ?_
        · refine .inl ⟨hw, fun w' hr' hR' => ?_⟩
          have h1 := hv _ hR'
          refine ⟨h1.1, ?_⟩
          have h2 := h1.2 w' rfl
          rw [eval_ev, execOp_only]
          unfold semPost at h2
          unfold semPostW
          split at h2
          · exact h2
          · exact h2
          · exact h2
          · exact h2
          · exact h2.elim
        · rw [put_putE]
          exact execT_sound hS hsel rest _ _ d w hr hok hk
      · refine anyR_first hS hi' (Region.noSelect_spec hsel) Bk hb2 rest.size listed _ w hfr hb1 hrdy (v := undef) (.inr ⟨hw, rfl⟩) ?_
        rw [put_putE]
        exact execT_sound hS hsel rest _ _ d w hr hok hB
  | .pure i rest, listed, e, d, w, hr, hok, H => by
    simp only [okT, Bool.and_eq_true] at hok
    obtain ⟨⟨⟨hready, hbk⟩, hG⟩, hok⟩ := hok
    unfold execT at H
    cases hi : all[i]? with
    | none => simp [hi] at H
    | some o =>
      simp only [hi] at H
      have hi' : all.toArray[i]? = some o := by simpa using hi
      obtain ⟨Bk, hBke⟩ : ∃ Bk, Bk = blk all listed i all.length 0 [] := ⟨_, rfl⟩
      rw [← hBke] at hbk hG
      have hb1 : ∀ j ∈ Bk, listed.getD j true = false := fun j hj => by
        have := List.all_eq_true.1 hbk j hj
        simp only [Bool.and_eq_true, Bool.not_eq_true'] at this
        exact this.1.1
      have hb2 : ∀ j ∈ Bk, j ≠ i ∧ ∀ oj, all.toArray[j]? = some oj → ∃ e ∈ oj.after, Region.binds .any e = true ∧ (e.on = i ∨ e.on ∈ Bk) := fun j hj => by
        have := List.all_eq_true.1 hbk j hj
        simp only [Bool.and_eq_true, bne_iff_ne, ne_eq] at this
        refine ⟨this.1.2, fun oj hoj => ?_⟩
        have hj2 : all[j]? = some oj := by simpa using hoj
        have h2 := this.2
        rw [hj2] at h2
        obtain ⟨e, he, hb⟩ := Array.any_eq_true'.1 h2
        simp only [Bool.and_eq_true, Bool.or_eq_true, beq_iff_eq, List.contains_eq_mem, decide_eq_true_eq] at hb
        exact ⟨e, he, hb.1, hb.2⟩
      have hfr : ∀ j oj, all.toArray[j]? = some oj → j ≠ i → listed.getD j true = false → j ∉ Bk → o.apart all.toArray oj = true := by
        intro j oj hj hne hun hno
        have hlt : j < all.length := by have := (Array.getElem?_eq_some_iff.1 hj).1; simpa using this
        have := List.all_eq_true.1 hG j (List.mem_range.2 hlt)
        have hj2 : all[j]? = some oj := by simpa using hj
        simp only [hi, hj2, Bool.or_eq_true, Bool.and_eq_true, beq_iff_eq, hne, false_or, hun, Bool.false_eq_true, List.contains_eq_mem, decide_eq_true_eq, hno] at this
        exact this
      have hrdy : i ∈ Region.ready .any all.toArray listed := by simpa using hready
      rcases guard_sound H o rfl with ⟨hw, hA⟩ | ⟨hw, hB⟩
      · obtain ⟨hd, v, hk, hv⟩ := opPW_sound (ty := o.type) hA
        refine anyR_firstP hS hi' (Region.noSelect_spec hsel) Bk hb2 rest.size listed _ w hfr hb1 hrdy (v := v) ?_ ?_
        · refine .inl ⟨hw, fun w' hr' => ⟨hd, ?_⟩⟩
          rw [eval_ev, execOp_only, hv w']
          exact ⟨⟨rfl, rfl⟩, Rest.refl _⟩
        · rw [put_putE]
          exact execT_sound hS hsel rest _ _ d w hr hok hk
      · refine anyR_firstP hS hi' (Region.noSelect_spec hsel) Bk hb2 rest.size listed _ w hfr hb1 hrdy (v := undef) (.inr ⟨hw, rfl⟩) ?_
        rw [put_putE]
        exact execT_sound hS hsel rest _ _ d w hr hok hB
  | .one i rest, listed, e, d, w, hr, hok, H => by
    intro w1 hr1 hR1
    simp only [okT, Bool.and_eq_true, decide_eq_true_eq, Bool.not_eq_true'] at hok
    obtain ⟨⟨hG, h1⟩, hok⟩ := hok
    rw [h1]
    refine ⟨fun h => by simp at h, fun q hq => ?_⟩
    have hq : q = i := by simpa using hq
    subst hq
    refine stO_sound (Kx := fun e h'' => execT P R all rest k e d h'') (stO_mono (H _ hR1) fun e h hk => ⟨fun hh => (by rw [hG] at hh; cases hh), hk⟩) fun e2 w2 hr2 K2 => ?_
    exact execT_sound hS hsel rest _ _ d w2 (hr.trans (hr1.trans hr2)) hok K2
  | .keep i rest, listed, e, d, w, hr, hok, H => by
    intro w1 hr1 hR1
    simp only [okT, Bool.and_eq_true, decide_eq_true_eq] at hok
    obtain ⟨h1, hok⟩ := hok
    rw [h1]
    refine ⟨fun h => by simp at h, fun q hq => ?_⟩
    have hq : q = i := by simpa using hq
    subst hq
    refine stO_sound (Kx := fun e h'' => execT P R all rest k e d h'') (stO_mono (H _ hR1) fun e h hk => ⟨fun _ => hk.1, hk.2⟩) fun e2 w2 hr2 K2 => ?_
    exact execT_sound hS hsel rest _ _ d w2 (hr.trans (hr1.trans hr2)) hok K2
  | .fork x y a b, listed, e, d, w, hr, hok, H => by
    intro w1 hr1 hR1
    simp only [okT, Bool.and_eq_true, decide_eq_true_eq] at hok
    obtain ⟨h1, h2, o1, o2⟩ := hok
    obtain ⟨A, B⟩ := H _ hR1
    rw [h1]
    refine ⟨fun h => by simp at h, fun q hq => ?_⟩
    have hq : q = x ∨ q = y := by simpa using hq
    rcases hq with rfl | rfl
    · refine stO_sound (Kx := fun e h'' => execT P R all a k e d h'') (stO_mono A fun e h hk => ⟨fun _ => hk.1, hk.2⟩) fun e2 w2 hr2 K2 => ?_
      exact execT_sound hS hsel a _ _ d w2 (hr.trans (hr1.trans hr2)) o1 K2
    · refine stO_sound (Kx := fun e h'' => execT P R all b k e d h'') (stO_mono B fun e h hk => ⟨fun _ => hk.1, hk.2⟩) fun e2 w2 hr2 K2 => ?_
      have := execT_sound (w0 := w0) hS hsel b _ _ d w2 (hr.trans (hr1.trans hr2)) o2 K2
      rw [← h2] at this
      exact this
  | .fork2 x y u v a b, listed, e, d, w, hr, hok, H => by
    intro w1 hr1 hR1
    simp only [okT, Bool.and_eq_true, decide_eq_true_eq, Bool.or_eq_true, Bool.not_eq_true'] at hok
    obtain ⟨gx, gy, h1, h2, o1, o2⟩ := hok
    obtain ⟨A, B⟩ := H _ hR1
    rw [h1]
    refine ⟨fun h => by simp at h, fun q hq => ?_⟩
    have hq : q = x ∨ q = y := by simpa using hq
    rcases hq with rfl | rfl
    · refine stO_sound (Kx := fun e h'' => execT P R all a k e d h'') (stO_mono A fun e h hk => ⟨fun hh => hk.1 (gx.resolve_right (by rw [hh]; decide)), hk.2⟩) fun e2 w2 hr2 K2 => ?_
      exact execT_sound hS hsel a _ _ d w2 (hr.trans (hr1.trans hr2)) o1 K2
    · refine stO_sound (Kx := fun e h'' => execT P R all b k e d h'') (stO_mono B fun e h hk => ⟨fun hh => hk.1 (gy.resolve_right (by rw [hh]; decide)), hk.2⟩) fun e2 w2 hr2 K2 => ?_
      have := execT_sound (w0 := w0) hS hsel b _ _ d w2 (hr.trans (hr1.trans hr2)) o2 K2
      rw [← h2] at this
      exact this
  | .fork3 x y z u v t a b c, listed, e, d, w, hr, hok, H => by
    intro w1 hr1 hR1
    simp only [okT, Bool.and_eq_true, decide_eq_true_eq, Bool.or_eq_true, Bool.not_eq_true'] at hok
    obtain ⟨gx, gy, gz, h1, h2, h3, o1, o2, o3⟩ := hok
    obtain ⟨A, B, C⟩ := H _ hR1
    rw [h1]
    refine ⟨fun h => by simp at h, fun q hq => ?_⟩
    have hq : q = x ∨ q = y ∨ q = z := by simpa using hq
    rcases hq with rfl | rfl | rfl
    · refine stO_sound (Kx := fun e h'' => execT P R all a k e d h'') (stO_mono A fun e h hk => ⟨fun hh => hk.1 (gx.resolve_right (by rw [hh]; decide)), hk.2⟩) fun e2 w2 hr2 K2 => ?_
      exact execT_sound hS hsel a _ _ d w2 (hr.trans (hr1.trans hr2)) o1 K2
    · refine stO_sound (Kx := fun e h'' => execT P R all b k e d h'') (stO_mono B fun e h hk => ⟨fun hh => hk.1 (gy.resolve_right (by rw [hh]; decide)), hk.2⟩) fun e2 w2 hr2 K2 => ?_
      have := execT_sound (w0 := w0) hS hsel b _ _ d w2 (hr.trans (hr1.trans hr2)) o2 K2
      rw [← h2] at this
      exact this
    · refine stO_sound (Kx := fun e h'' => execT P R all c k e d h'') (stO_mono C fun e h hk => ⟨fun hh => hk.1 (gz.resolve_right (by rw [hh]; decide)), hk.2⟩) fun e2 w2 hr2 K2 => ?_
      have := execT_sound (w0 := w0) hS hsel c _ _ d w2 (hr.trans (hr1.trans hr2)) o3 K2
      rw [← h3] at this
      exact this
theorem WP_tree (hm : P.follows .mixedOrders = true) (hS : Sta R) {id : Nat} {all : List Oper} {k : Cont} {e : Env} {d : List Deferred} {h : Heap} (t : PT)
    (hsel : Region.noSelect all.toArray = true) (hlen : t.size = all.length) (hok : okT t.G all t (Array.replicate all.length false) = true)
    (H : execT P R all t k e d h) : WP l P (.region id all.toArray true) k e d h := by
  unfold WP
  intro w hw
  subst hw
  refine wpIn_region_any hm ?_
  have h1 := execT_sound (w0 := w) (G := t.G) hS hsel t _ e d { w with drawn := w.drawn + 1 } ⟨rfl, rfl, rfl⟩ hok H
  rw [hlen] at h1
  have h2 := wpAny_of_anyR (l := l) (Q' := fun x a w' => k x a.tmps.toList a.defers w'.heap ∧ Rest w w') hS (fun a w' hq => hq) _ _ _ _ h1
  simpa using h2
variable {all : List Oper} {rest : PT} {k : Cont} {e : Env} {d : List Deferred} {h : Heap} {dst : Option Tmp} {op : Op} {ty : TypeId} {pos : String} {after : Array Edge} {i x y : Nat} {a b : PT}
def setT (P : Program) (R : Heap → Heap → Prop) (all : List Oper) (rest : PT) (k : Cont) (dst : Option Tmp) (e : Env) (d : List Deferred) : Value → Heap → Prop := fun v h => execT P R all rest k (putE e dst v) d h
theorem setT_eq {v : Value} : setT P R all rest k dst e d v h = execT P R all rest k (putE e dst v) d h := eqi rfl
def stT (P : Program) (R : Heap → Heap → Prop) (o : Option Oper) (all : List Oper) (rest : PT) (k : Cont) (e : Env) (d : List Deferred) (h : Heap) : Prop :=
  match o with
  | some o => guardW o.guard all e (fun e => opQW P R o.op o.type e h (fun v h' => setT P R all rest k o.dst e d v h')) (fun e => execT P R all rest k (putE e o.dst undef) d h)
  | none => False
theorem execT_quiet : execT P R all (.quiet i rest) k e d h = stT P R all[i]? all rest k e d h := by simp only [execT, stT, setT]
theorem stT_plain : stT P R (some ⟨dst, op, ty, pos, after, none⟩) all rest k e d h = opQW P R op ty e h (setT P R all rest k dst e d) := by simp only [stT, guardW]
def stTp (P : Program) (R : Heap → Heap → Prop) (o : Option Oper) (all : List Oper) (rest : PT) (k : Cont) (e : Env) (d : List Deferred) (h : Heap) : Prop :=
  match o with
  | some o => guardW o.guard all e (fun e => opPW P o.op e h (fun v h' => setT P R all rest k o.dst e d v h')) (fun e => execT P R all rest k (putE e o.dst undef) d h)
  | none => False
theorem execT_pure : execT P R all (.pure i rest) k e d h = stTp P R all[i]? all rest k e d h := by simp only [execT, stTp, setT]
theorem stTp_plain : stTp P R (some ⟨dst, op, ty, pos, after, none⟩) all rest k e d h = opPW P op e h (setT P R all rest k dst e d) := by simp only [stTp, guardW]
theorem stO_plain {K : Env → Heap → Prop} : stO P all (some ⟨dst, op, ty, pos, after, none⟩) e h K = opW P op ty e h (fun v h' => K (putE e dst v) h') := by simp only [stO, guardW]
theorem stO_gtt {K : Env → Heap → Prop} {j : Nat} {s : Tmp} (hs : gslot all j = some s) (hv : e.getD s undef = .bool true) : stO P all (some ⟨dst, op, ty, pos, after, some (j, true)⟩) e h K = opW P op ty (e.set s (.bool true)) h (fun v h' => K (putE (e.set s (.bool true)) dst v) h') := by
  simp only [stO, guardW, hs, boolW, hv]
  simp
theorem stO_gft {K : Env → Heap → Prop} {j : Nat} {s : Tmp} (hs : gslot all j = some s) (hv : e.getD s undef = .bool false) : stO P all (some ⟨dst, op, ty, pos, after, some (j, true)⟩) e h K = K (putE (e.set s (.bool false)) dst undef) h := by
  simp only [stO, guardW, hs, boolW, hv]
  simp
/-! guarded operations in a tree -/
def gtT (P : Program) (R : Heap → Heap → Prop) (v : Value) (s : Tmp) (want : Bool) (op : Op) (ty : TypeId) (all : List Oper) (rest : PT) (k : Cont) (dst : Option Tmp) (e : Env) (d : List Deferred) (h : Heap) : Prop :=
  boolW v (fun b => if b = want then opQW P R op ty (e.set s (.bool b)) h (setT P R all rest k dst (e.set s (.bool b)) d) else execT P R all rest k (putE (e.set s (.bool b)) dst undef) d h) (execT P R all rest k (putE e dst undef) d h)
def gtTo (P : Program) (R : Heap → Heap → Prop) (s : Option Tmp) (want : Bool) (op : Op) (ty : TypeId) (all : List Oper) (rest : PT) (k : Cont) (dst : Option Tmp) (e : Env) (d : List Deferred) (h : Heap) : Prop :=
  match s with | some s => gtT P R (e.getD s undef) s want op ty all rest k dst e d h | none => execT P R all rest k (putE e dst undef) d h
theorem stT_guard {j : Nat} {want : Bool} : stT P R (some ⟨dst, op, ty, pos, after, some (j, want)⟩) all rest k e d h = gtTo P R (gslot all j) want op ty all rest k dst e d h := by
  simp only [stT, guardW, gtTo]; cases gslot all j <;> rfl
theorem gtTo_some {s : Tmp} {want : Bool} : gtTo P R (some s) want op ty all rest k dst e d h = gtT P R (e.getD s undef) s want op ty all rest k dst e d h := eqi rfl
theorem gtT_tt {s : Tmp} : gtT P R (.bool true) s true op ty all rest k dst e d h = opQW P R op ty (e.set s (.bool true)) h (setT P R all rest k dst (e.set s (.bool true)) d) := by simp [gtT, boolW]
theorem gtT_ff {s : Tmp} : gtT P R (.bool false) s false op ty all rest k dst e d h = opQW P R op ty (e.set s (.bool false)) h (setT P R all rest k dst (e.set s (.bool false)) d) := by simp [gtT, boolW]
theorem gtT_tf {s : Tmp} : gtT P R (.bool true) s false op ty all rest k dst e d h = execT P R all rest k (putE (e.set s (.bool true)) dst undef) d h := by simp [gtT, boolW]
theorem gtT_ft {s : Tmp} : gtT P R (.bool false) s true op ty all rest k dst e d h = execT P R all rest k (putE (e.set s (.bool false)) dst undef) d h := by simp [gtT, boolW]
theorem gtT_undef {s : Tmp} {w : Bool} {vs : Array Value} : gtT P R (.tuple vs) s w op ty all rest k dst e d h = execT P R all rest k (putE e dst undef) d h := by simp [gtT, boolW]
def gtP (P : Program) (R : Heap → Heap → Prop) (v : Value) (s : Tmp) (want : Bool) (op : Op) (all : List Oper) (rest : PT) (k : Cont) (dst : Option Tmp) (e : Env) (d : List Deferred) (h : Heap) : Prop :=
  boolW v (fun b => if b = want then opPW P op (e.set s (.bool b)) h (setT P R all rest k dst (e.set s (.bool b)) d) else execT P R all rest k (putE (e.set s (.bool b)) dst undef) d h) (execT P R all rest k (putE e dst undef) d h)
def gtPo (P : Program) (R : Heap → Heap → Prop) (s : Option Tmp) (want : Bool) (op : Op) (all : List Oper) (rest : PT) (k : Cont) (dst : Option Tmp) (e : Env) (d : List Deferred) (h : Heap) : Prop :=
  match s with | some s => gtP P R (e.getD s undef) s want op all rest k dst e d h | none => execT P R all rest k (putE e dst undef) d h
theorem stTp_guard {j : Nat} {want : Bool} : stTp P R (some ⟨dst, op, ty, pos, after, some (j, want)⟩) all rest k e d h = gtPo P R (gslot all j) want op all rest k dst e d h := by
  simp only [stTp, guardW, gtPo]; cases gslot all j <;> rfl
theorem gtPo_some {s : Tmp} {want : Bool} : gtPo P R (some s) want op all rest k dst e d h = gtP P R (e.getD s undef) s want op all rest k dst e d h := eqi rfl
theorem gtP_tt {s : Tmp} : gtP P R (.bool true) s true op all rest k dst e d h = opPW P op (e.set s (.bool true)) h (setT P R all rest k dst (e.set s (.bool true)) d) := by simp [gtP, boolW]
theorem gtP_ff {s : Tmp} : gtP P R (.bool false) s false op all rest k dst e d h = opPW P op (e.set s (.bool false)) h (setT P R all rest k dst (e.set s (.bool false)) d) := by simp [gtP, boolW]
theorem gtP_tf {s : Tmp} : gtP P R (.bool true) s false op all rest k dst e d h = execT P R all rest k (putE (e.set s (.bool true)) dst undef) d h := by simp [gtP, boolW]
theorem gtP_ft {s : Tmp} : gtP P R (.bool false) s true op all rest k dst e d h = execT P R all rest k (putE (e.set s (.bool false)) dst undef) d h := by simp [gtP, boolW]
theorem gtP_undef {s : Tmp} {w : Bool} {vs : Array Value} : gtP P R (.tuple vs) s w op all rest k dst e d h = execT P R all rest k (putE e dst undef) d h := by simp [gtP, boolW]
def gtO (P : Program) (v : Value) (s : Tmp) (want : Bool) (op : Op) (ty : TypeId) (dst : Option Tmp) (e : Env) (h : Heap) (K : Env → Heap → Prop) : Prop :=
  boolW v (fun b => if b = want then opW P op ty (e.set s (.bool b)) h (fun v h' => K (putE (e.set s (.bool b)) dst v) h') else K (putE (e.set s (.bool b)) dst undef) h) (K (putE e dst undef) h)
def gtOo (P : Program) (s : Option Tmp) (want : Bool) (op : Op) (ty : TypeId) (dst : Option Tmp) (e : Env) (h : Heap) (K : Env → Heap → Prop) : Prop :=
  match s with | some s => gtO P (e.getD s undef) s want op ty dst e h K | none => K (putE e dst undef) h
theorem stO_guard {j : Nat} {want : Bool} {K : Env → Heap → Prop} : stO P all (some ⟨dst, op, ty, pos, after, some (j, want)⟩) e h K = gtOo P (gslot all j) want op ty dst e h K := by
  simp only [stO, guardW, gtOo]; cases gslot all j <;> rfl
theorem gtOo_some {s : Tmp} {want : Bool} {K : Env → Heap → Prop} : gtOo P (some s) want op ty dst e h K = gtO P (e.getD s undef) s want op ty dst e h K := eqi rfl
theorem gtO_tt {s : Tmp} {K : Env → Heap → Prop} : gtO P (.bool true) s true op ty dst e h K = opW P op ty (e.set s (.bool true)) h (fun v h' => K (putE (e.set s (.bool true)) dst v) h') := by simp [gtO, boolW]
theorem gtO_ff {s : Tmp} {K : Env → Heap → Prop} : gtO P (.bool false) s false op ty dst e h K = opW P op ty (e.set s (.bool false)) h (fun v h' => K (putE (e.set s (.bool false)) dst v) h') := by simp [gtO, boolW]
theorem gtO_tf {s : Tmp} {K : Env → Heap → Prop} : gtO P (.bool true) s false op ty dst e h K = K (putE (e.set s (.bool true)) dst undef) h := by simp [gtO, boolW]
theorem gtO_ft {s : Tmp} {K : Env → Heap → Prop} : gtO P (.bool false) s true op ty dst e h K = K (putE (e.set s (.bool false)) dst undef) h := by simp [gtO, boolW]
theorem gtO_undef {s : Tmp} {w : Bool} {vs : Array Value} {K : Env → Heap → Prop} : gtO P (.tuple vs) s w op ty dst e h K = K (putE e dst undef) h := by simp [gtO, boolW]
set_option linter.defProp false
def treeS := And.intro (And.intro (And.intro @execT_quiet @execT_pure) (And.intro (And.intro @stT_plain @stTp_plain) (And.intro (And.intro @stT_guard @stTp_guard) (And.intro @stO_plain @stO_guard))))
  (And.intro (And.intro (And.intro @gtTo_some @gtPo_some) (And.intro @gtOo_some @setT_eq)) (And.intro (And.intro (And.intro @gtT_tt @gtT_ff) (And.intro @gtT_tf (And.intro @gtT_ft @gtT_undef))) (And.intro (And.intro (And.intro @gtP_tt @gtP_ff) (And.intro @gtP_tf (And.intro @gtP_ft @gtP_undef))) (And.intro (And.intro @gtO_tt @gtO_ff) (And.intro @gtO_tf (And.intro @gtO_ft @gtO_undef))))))
theorem execT_fin (H : ∀ h', R h h' → k .normal e d h') : execT P R all .fin k e d h := H
theorem execT_one (H : ∀ h', R h h' → stO P all all[i]? e h' (fun e h'' => execT P R all rest k e d h'')) : execT P R all (.one i rest) k e d h := H
theorem execT_keep (H : ∀ h', R h h' → stO P all all[i]? e h' (fun e h'' => R h' h'' ∧ execT P R all rest k e d h'')) : execT P R all (.keep i rest) k e d h := H
theorem execT_fork (H : ∀ h', R h h' → stO P all all[x]? e h' (fun e h'' => R h' h'' ∧ execT P R all a k e d h'') ∧ stO P all all[y]? e h' (fun e h'' => R h' h'' ∧ execT P R all b k e d h'')) : execT P R all (.fork x y a b) k e d h := H
theorem execT_fork2 {u v : Bool} (H : ∀ h', R h h' → stO P all all[x]? e h' (fun e h'' => (u = true → R h' h'') ∧ execT P R all a k e d h'') ∧ stO P all all[y]? e h' (fun e h'' => (v = true → R h' h'') ∧ execT P R all b k e d h'')) : execT P R all (.fork2 x y u v a b) k e d h := H
theorem execT_fork3 {z : Nat} {u v t : Bool} {c : PT} (H : ∀ h', R h h' → stO P all all[x]? e h' (fun e h'' => (u = true → R h' h'') ∧ execT P R all a k e d h'') ∧ stO P all all[y]? e h' (fun e h'' => (v = true → R h' h'') ∧ execT P R all b k e d h'') ∧ stO P all all[z]? e h' (fun e h'' => (t = true → R h' h'') ∧ execT P R all c k e d h'')) : execT P R all (.fork3 x y z u v t a b c) k e d h := H
theorem eqh {p : Heap → Prop} (H : p h) : ∀ h', EqH h h' → p h' := fun h' hh => by rw [show h' = h from hh]; exact H
theorem execT_finE (H : k .normal e d h) : execT P EqH all .fin k e d h := eqh H
theorem execT_oneE (H : stO P all all[i]? e h (fun e h'' => execT P EqH all rest k e d h'')) : execT P EqH all (.one i rest) k e d h := eqh (p := fun h => stO P all all[i]? e h (fun e h'' => execT P EqH all rest k e d h'')) H
theorem execT_keepE (H : stO P all all[i]? e h (fun e h'' => EqH h h'' ∧ execT P EqH all rest k e d h'')) : execT P EqH all (.keep i rest) k e d h := eqh (p := fun h => stO P all all[i]? e h (fun e h'' => EqH h h'' ∧ execT P EqH all rest k e d h'')) H
theorem execT_fork2E {u v : Bool} (A : stO P all all[x]? e h (fun e h'' => (u = true → EqH h h'') ∧ execT P EqH all a k e d h'')) (B : stO P all all[y]? e h (fun e h'' => (v = true → EqH h h'') ∧ execT P EqH all b k e d h'')) : execT P EqH all (.fork2 x y u v a b) k e d h :=
  eqh (p := fun h => stO P all all[x]? e h (fun e h'' => (u = true → EqH h h'') ∧ execT P EqH all a k e d h'') ∧ stO P all all[y]? e h (fun e h'' => (v = true → EqH h h'') ∧ execT P EqH all b k e d h'')) ⟨A, B⟩
theorem execT_fork3E {z : Nat} {u v t : Bool} {c : PT} (A : stO P all all[x]? e h (fun e h'' => (u = true → EqH h h'') ∧ execT P EqH all a k e d h'')) (B : stO P all all[y]? e h (fun e h'' => (v = true → EqH h h'') ∧ execT P EqH all b k e d h'')) (C : stO P all all[z]? e h (fun e h'' => (t = true → EqH h h'') ∧ execT P EqH all c k e d h'')) : execT P EqH all (.fork3 x y z u v t a b c) k e d h :=
  eqh (p := fun h => stO P all all[x]? e h (fun e h'' => (u = true → EqH h h'') ∧ execT P EqH all a k e d h'') ∧ stO P all all[y]? e h (fun e h'' => (v = true → EqH h h'') ∧ execT P EqH all b k e d h'') ∧ stO P all all[z]? e h (fun e h'' => (t = true → EqH h h'') ∧ execT P EqH all c k e d h'')) ⟨A, B, C⟩
end tree
section fresh
variable {P : Program} {h : Heap} {er : Env} {ty : TypeId}
/-- APPEND to a slice that is empty, and has no room. -/
theorem append_freshT {t t2 el e2 : TypeId} {z : Value} {s : Nat} (hu : P.underlying t = some (.slice el)) (hu2 : P.underlying t2 = some (.slice e2)) (hi : (P.info? el).isSome = true) (hsz : szT P el = s) (hz : zeroT P el = some z) (hzs : z.cells.size = s)
    {x y : Operand} {g : Nat} {b : Option Addr} {m c : Nat} {ys : List Value} {K : Value → Heap → Prop} (hx : ev er x = .slice (some ⟨g, 0, none⟩) 0 0) (hy : ev er y = .slice b m c) (q2 : h[g]? = some (.cells #[] el)) (I : Row h b ys) (hyl : ys.length = m * s) (h1 : ∀ u ∈ ys, u.oneCell' = true) (hb : m ≤ 1000000) (hby : m * bytesT P el ≤ 1000000)
    (H : ∀ a' cap' h', OwnV g h' el s a' m cap' ys → Ext h h' → K (.slice a' m cap') h') : opSem P (.call ⟨.builtin .append, #[x, y], #[t, t2]⟩) ty er h K := by
  unfold opSem
  refine And.intro rfl fun w hw => ?_
  subst hw
  obtain ⟨i, hi⟩ := Option.isSome_iff_exists.1 hi
  have hsz : i.size = s := by simpa [szT, hi] using hsz
  have hz : i.zero = some z := by simpa [zeroT, hi] using hz
  have hby : m * i.bytes ≤ 1000000 := by simpa [bytesT, hi] using hby
  have hs := row_src (P := P) (ats := #[t, t2]) (c := c) rfl hu2 I hyl
  have hargs : #[x, y].map (ev er) = #[.slice (some ⟨g, 0, none⟩) 0 0, .slice b m c] := by simp [hx, hy]
  have key : ∀ v w', (Builtin.append_ #[t, t2] ty #[.slice (some ⟨g, 0, none⟩) 0 0, .slice b m c]).run P w = .ok v w' → Rest w w' → K v w'.heap →
      semPost P w K ((execOp (ev er) { dst := none, op := .call ⟨.builtin .append, #[x, y], #[t, t2]⟩, type := ty, pos := "", after := #[], guard := none }).run P w) := by
    intro v w' h1 h2 h3
    have : (execOp (ev er) { dst := none, op := .call ⟨.builtin .append, #[x, y], #[t, t2]⟩, type := ty, pos := "", after := #[], guard := none }).run P w = .ok (.value v) w' := by
      simp only [execOp, resolve, invoke, builtin, Sem.run_bind, Sem.run_pure, Result.andThen_ok, hargs, h1]
    rw [this]
    exact ⟨h3, h2⟩
  have hlt := lt_of_get q2
  by_cases hm : m = 0
  · subst hm
    have hy0 : ys = [] := List.length_eq_zero_iff.1 (by simpa using hyl)
    subst hy0
    have g1 := Go.Run.ap_room (P := P) (ty := ty) (ats := #[t, t2]) (sLen := 0) (sCap := 0) (off := 0) rfl hu hi w (by rw [hsz]; exact hs) q2 h1 (Nat.le_refl _) (by simp)
    have hh := setRow_heap (w := w) (cur := #[]) q2 (splice (#[] : Array Value).toList (0 + 0 * i.size) [])
    refine key _ _ g1 ⟨rfl, rfl, rfl⟩ (H _ _ _ ⟨by simp, .inr ⟨g, _, rfl, Nat.le_refl _, hh.1, by simp, Nat.le_refl _, by simp⟩⟩ ⟨by rw [hh.2.size]; exact Nat.le_refl _, fun b' hb' => ?_⟩)
    by_cases hbg : b' = g
    · subst hbg
      rw [hh.1, q2]
      simp [splice]
    · exact hh.2.old b' hbg
  · have g1 := Go.Run.ap_grow (P := P) (ty := ty) (ats := #[t, t2]) (z := z) (sLen := 0) (sCap := 0) (b := some ⟨g, 0, none⟩) (olds := []) rfl hu hi hz w (by rw [hsz]; exact hs)
      (fun w' hw' => by
        have hI : Row w'.heap (some ⟨g, 0, none⟩) [] := .inl rfl
        have := firstV (P := P) (c := 0) (s := s) (m := 0) (k := 0) hI (by simp) (Nat.le_refl 0)
        rw [hsz]
        simpa using this) (by omega) (by rw [Nat.zero_add]; exact hby) (by omega)
    have hge := grownCap_ge w (0 + m) 0 el
    have hmm : 0 + m = m := Nat.zero_add m
    rw [hmm] at g1 hge
    refine key _ _ g1 ⟨rfl, rfl, rfl⟩ (H _ _ _ ⟨hyl, .inr ⟨w.heap.size, _, rfl, Nat.le_of_lt hlt, push_new, ?_, hge, ?_⟩⟩ ((Ext.refl _).push _))
    · have e1 : m * s + (grownCap w m 0 el - m) * s = grownCap w m 0 el * s := by rw [← Nat.add_mul]; congr 1; omega
      simp only [List.size_toArray, List.length_append, Array.length_toList, zeroCells_size, hzs, hyl, List.length_nil, Nat.zero_add] at e1 ⊢
      omega
    · rw [List.toList_toArray, List.nil_append, List.take_append_of_le_length (by omega), List.take_of_length_le (by omega)]
end fresh
end Go.Eng
