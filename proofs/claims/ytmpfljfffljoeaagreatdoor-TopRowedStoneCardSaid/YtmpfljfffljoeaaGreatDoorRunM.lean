/- The evaluator with calls whose answers are known already: the answers hold. No condition. -/
import Derived.Test.YtmpfljfffljoeaaGreatDoorRunU
set_option linter.unusedVariables false
set_option linter.unusedSimpArgs false
set_option linter.defProp false
namespace Go.Run
open Go Go.Eng
/-! ### equality of simple values and rows -/
noncomputable def beqB : Bool → Bool → Bool
  | true, true => true
  | false, false => true
  | _, _ => false
noncomputable def beq1 (a b : T) : Bool := eqT1 a b
noncomputable def beqL : List T → List T → Bool
  | [], [] => true
  | a :: l, b :: m => beq1 a b && beqL l m
  | _, _ => false
noncomputable def beqT : T → T → Bool
  | .agg a, .agg b => beqL a b
  | .tup a, .tup b => beqL a b
  | .func f a b, .func g c d => eqF (.func f a b) (.func g c d)
  | a, b => beq1 a b
noncomputable def beqA : List T → List T → Bool
  | [], [] => true
  | a :: l, b :: m => beqT a b && beqA l m
  | _, _ => false
noncomputable def beqR (a b : VO) : Bool := eqVO a b
/-- A value that lies in no block. -/
noncomputable def flat1 : T → Bool
  | .bool _ => true
  | .int _ _ => true
  | .str _ => true
  | .nslice => true
  | .niface => true
  | _ => false
noncomputable def flatL : List T → Bool
  | [] => true
  | a :: l => flat1 a && flatL l
noncomputable def flatT : T → Bool
  | .agg a => flatL a
  | .tup a => flatL a
  | a => flat1 a
noncomputable def rowsOk (s : S) : List (Nat × VO) → Bool
  | [] => true
  | x :: l => (match s.at x.1 with | some o => beqR o x.2 | none => false) && rowsOk s l
theorem beqB_sound {a b : Bool} (h : beqB a b = true) : a = b := by
  cases a <;> cases b <;> first | rfl | cases h
theorem beqI_sound {a b : Int} (h : beqI a b = true) : a = b := by
  rw [beqI_eq, decide_eq_true_eq] at h; exact h
theorem beqS_sound {a b : List UInt8} (h : beqS a b = true) : a = b := by
  rw [beqS_eq, decide_eq_true_eq] at h; exact h
theorem natB {a b : Nat} (h : Nat.beq a b = true) : a = b := Nat.eq_of_beq_eq_true h
theorem beq1_sound {a b : T} (h : beq1 a b = true) : a = b := eqT1_sound h
theorem beqL_sound : ∀ {a b : List T}, beqL a b = true → a = b
  | [], [], _ => rfl
  | [], _ :: _, h => by simp [beqL] at h
  | _ :: _, [], h => by simp [beqL] at h
  | a :: l, b :: m, h => by
    simp only [beqL, Bool.and_eq_true] at h
    rw [beq1_sound h.1, beqL_sound h.2]
theorem beqT_sound {a b : T} (h : beqT a b = true) : a = b := by
  unfold beqT at h
  split at h
  · rw [beqL_sound h]
  · rw [beqL_sound h]
  · exact eqF_sound h
  · exact beq1_sound h
theorem beqA_sound : ∀ {a b : List T}, beqA a b = true → a = b
  | [], [], _ => rfl
  | [], _ :: _, h => by simp [beqA] at h
  | _ :: _, [], h => by simp [beqA] at h
  | a :: l, b :: m, h => by
    simp only [beqA, Bool.and_eq_true] at h
    rw [beqT_sound h.1, beqA_sound h.2]
theorem beqR_sound {a b : VO} (h : beqR a b = true) : a = b ∧ b.am = false := by
  have he := eqVO_sound h
  refine ⟨he, ?_⟩
  rw [← he]
  unfold beqR eqVO at h
  split at h <;> first | rfl | cases h
theorem flat1_VR {ι ι' : Io} {t : T} {v : Value} (hf : flat1 t = true) (h : VR ι t v) : VR ι' t v := by
  cases t <;> simp only [flat1, Bool.false_eq_true] at hf <;> simpa only [VR] using h
theorem flatL_VL {ι ι' : Io} : ∀ {ts : List T} {vs : List Value}, flatL ts = true → VL ι ts vs → VL ι' ts vs
  | [], vs, _, h => by simpa only [VL] using h
  | t :: ts, vs, hf, h => by
    simp only [flatL, Bool.and_eq_true] at hf
    simp only [VL] at *
    obtain ⟨v, rest, h1, h2, h3⟩ := h
    exact ⟨v, rest, h1, flat1_VR hf.1 h2, flatL_VL hf.2 h3⟩
theorem flatT_VR {ι ι' : Io} {t : T} {v : Value} (hf : flatT t = true) (h : VR ι t v) : VR ι' t v := by
  unfold flatT at hf
  split at hf
  · simp only [VR] at *
    obtain ⟨vs, h1, h2⟩ := h
    exact ⟨vs, h1, flatL_VL hf h2⟩
  · simp only [VR] at *
    obtain ⟨vs, h1, h2⟩ := h
    exact ⟨vs, h1, flatL_VL hf h2⟩
  · exact flat1_VR hf h
/-- A state of some rows alone. -/
noncomputable def memS (N : Nat) (rows : List (Nat × VO)) : S := ⟨fromV rows (.leaf none), N, N⟩
theorem fromV_at (s : S) : ∀ (rows : List (Nat × VO)) (V : En (Option VO)) (nx low : Nat), rowsOk s rows = true → (∀ b, (⟨V, nx, low⟩ : S).at b = none ∨ ((⟨V, nx, low⟩ : S).at b = s.at b ∧ amAt s b = false)) → ∀ b, (⟨fromV rows V, nx, low⟩ : S).at b = none ∨ ((⟨fromV rows V, nx, low⟩ : S).at b = s.at b ∧ amAt s b = false)
  | [], V, nx, low, _, hV => hV
  | x :: rows, V, nx, low, hr, hV => by
    simp only [rowsOk, Bool.and_eq_true] at hr
    obtain ⟨h1, h2⟩ := hr
    unfold fromV
    rw [En.setK_eq]
    refine fromV_at s rows _ nx low h2 fun b => ?_
    cases hx : s.at x.1 with
    | none => rw [hx] at h1; cases h1
    | some o =>
      rw [hx] at h1
      obtain ⟨e1, e2⟩ := beqR_sound h1
      have hx16 : Nat.ble x.1 16383 = true := by
        cases hb : Nat.ble x.1 16383 with
        | true => rfl
        | false =>
          unfold S.at at hx
          rw [ite_eq, hb, if_neg (by decide)] at hx
          cases hx
      have hx2 := ble_iff.1 hx16
      have hb := hV b
      by_cases hbc : x.1 = b
      · right
        subst hbc
        refine ⟨?_, ?_⟩
        · rw [hx]
          unfold S.at
          rw [ite_eq, hx16, if_pos rfl, En.get_set_of (by omega) (by omega), if_pos rfl, e1]
        · unfold amAt
          rw [hx, e1]
          exact e2
      · unfold S.at at hb ⊢
        rw [ite_eq, ite_eq] at hb ⊢
        by_cases hb16 : Nat.ble b 16383 = true
        · simp only [hb16, if_true] at hb ⊢
          have hb2 := ble_iff.1 hb16
          rw [En.get_set_of (by omega) (by omega), if_neg (fun e => hbc e.symm)]
          exact hb
        · left
          simp only [hb16, if_false]
          rfl
theorem memS_at {s : S} {N : Nat} {rows : List (Nat × VO)} (hr : rowsOk s rows = true) (b : Nat) : (memS N rows).at b = none ∨ ((memS N rows).at b = s.at b ∧ amAt s b = false) :=
  fromV_at s rows _ N N hr (fun b => .inl (by
    unfold S.at
    rw [ite_eq]
    split
    · rw [En.get_leaf]
    · rfl)) b
theorem memo_soundP {P : Program} {p : Pr} {self : CodeRun} {ι : Io} {s s1 : S} {h : Heap} {N : Nat} {rows : List (Nat × VO)} {g : FuncId} {vs : List T} {us : List Value} {t : T} (ok : Ok P p) (sd : Snd P self) (hd : callFn p self g vs (memS N rows) = .ok (t, s1)) (hlow : N ≤ s1.low) (hf : flatT t = true)
    (hm : ∀ b, (memS N rows).at b = none ∨ ((memS N rows).at b = s.at b ∧ amAt s b = false)) (hn : s.nx ≤ N) (hv : VL ι vs us) (H : Sim P ι s h) : CallsH P g us.toArray h (Post P ι s h t s) := by
  have live : ∀ b, (memS N rows).at b ≠ none → s.at b ≠ none := fun b hb => by
    rcases hm b with h1 | ⟨h1, _⟩
    · exact absurd h1 hb
    · rw [← h1]; exact hb
  have H1 : Sim P ι (memS N rows) h := ⟨fun b x hx => ⟨Nat.lt_of_lt_of_le (H.fresh b x hx).1 hn, (H.fresh b x hx).2⟩, fun b c x y hb hc => H.inj b c x y (live b hb) (live c hc), fun b o hb => by
    rcases hm b with h1 | ⟨h1, _⟩
    · rw [h1] at hb; cases hb
    · exact H.obj b o (h1 ▸ hb)⟩
  refine CallsH.mono (fn_sound ok sd hd hv H1) ?_
  rintro v h' ⟨ι', st, sm, hv'⟩
  have keep : ∀ r, r < h.size → (∀ b x, ι b = some x → x.r = r → b < N ∧ amAt (memS N rows) b = false) → h'[r]? = h[r]? := fun r hr2 hb => st.old r hr2 fun b x hx he => .inr ⟨Nat.lt_of_lt_of_le (hb b x hx he).1 hlow, (hb b x hx he).2⟩
  have noAm : ∀ b, amAt (memS N rows) b = false := fun b => by
    rcases hm b with h1 | ⟨h1, h2⟩
    · unfold amAt; rw [h1]
    · unfold amAt at h2 ⊢; rw [h1]; exact h2
  have same : ∀ r, r < h.size → h'[r]? = h[r]? := fun r hr2 => keep r hr2 fun b x hx _ => ⟨Nat.lt_of_lt_of_le (H.fresh b x hx).1 hn, noAm b⟩
  refine ⟨ι, ⟨fun _ _ hx => hx, Nat.le_refl _, Nat.le_refl _, st.size, fun _ _ hx => hx, fun _ _ hx => .inl hx, fun _ _ _ hx => hx, fun r hr2 _ => same r hr2⟩, ⟨fun b x hx => ⟨(H.fresh b x hx).1, Nat.lt_of_lt_of_le (H.fresh b x hx).2 st.size⟩, H.inj, fun b o hb => ?_⟩, flatT_VR hf hv'⟩
  obtain ⟨x, ob, h1, h2, h3⟩ := H.obj b o hb
  exact ⟨x, ob, h1, (same x.r (H.fresh b x h1).2).trans h2, h3⟩
theorem memo_sound {P : Program} {p : Pr} {self : CodeRun} {ι : Io} {s s1 : S} {h : Heap} {N : Nat} {rows : List (Nat × VO)} {g : FuncId} {vs : List T} {us : List Value} {t : T} (ok : Ok P p) (sd : Snd P self) (hd : callFn p self g vs (memS N rows) = .ok (t, s1)) (hlow : N ≤ s1.low) (hf : flatT t = true)
    (hr : rowsOk s rows = true) (hn : s.nx ≤ N) (hv : VL ι vs us) (H : Sim P ι s h) : CallsH P g us.toArray h (Post P ι s h t s) :=
  memo_soundP ok sd hd hlow hf (memS_at hr) hn hv H
theorem fromV_atP (s : S) : ∀ (rows : List (Nat × VO)) (V : En (Option VO)) (nx low : Nat), (∀ x ∈ rows, s.at x.1 = some x.2 ∧ x.2.am = false) → (∀ b, (⟨V, nx, low⟩ : S).at b = none ∨ ((⟨V, nx, low⟩ : S).at b = s.at b ∧ amAt s b = false)) → ∀ b, (⟨fromV rows V, nx, low⟩ : S).at b = none ∨ ((⟨fromV rows V, nx, low⟩ : S).at b = s.at b ∧ amAt s b = false)
  | [], V, nx, low, _, hV => hV
  | x :: rows, V, nx, low, hr, hV => by
    obtain ⟨hx, e2⟩ := hr x (by simp)
    unfold fromV
    rw [En.setK_eq]
    refine fromV_atP s rows _ nx low (fun y hy => hr y (by simp [hy])) fun b => ?_
    have hx16 : Nat.ble x.1 16383 = true := by
      cases hb : Nat.ble x.1 16383 with
      | true => rfl
      | false =>
        unfold S.at at hx
        rw [ite_eq, hb, if_neg (by decide)] at hx
        cases hx
    by_cases hbc : b = x.1
    · right
      subst hbc
      refine ⟨?_, ?_⟩
      · rw [hx, S_set _ hx16, if_pos rfl]
      · unfold amAt
        rw [hx]
        exact e2
    · rw [S_set _ hx16, if_neg hbc]
      exact hV b
theorem memS_atP {s : S} {N : Nat} {rows : List (Nat × VO)} (hr : ∀ x ∈ rows, s.at x.1 = some x.2 ∧ x.2.am = false) (b : Nat) : (memS N rows).at b = none ∨ ((memS N rows).at b = s.at b ∧ amAt s b = false) :=
  fromV_atP s rows _ N N hr (fun b => .inl (by
    unfold S.at
    rw [ite_eq]
    split
    · rw [En.get_leaf]
    · rfl)) b
theorem rowsOk_mem {s : S} : ∀ {rows : List (Nat × VO)}, rowsOk s rows = true → ∀ x ∈ rows, s.at x.1 = some x.2 ∧ x.2.am = false
  | [], _, x, hx => by simp at hx
  | y :: rows, h, x, hx => by
    simp only [rowsOk, Bool.and_eq_true] at h
    rcases List.mem_cons.1 hx with rfl | hx
    · have h1 := h.1
      split at h1
      · rename_i o ho
        obtain ⟨e1, e2⟩ := beqR_sound h1
        exact ⟨by rw [ho, e1], e2⟩
      · cases h1
    · exact rowsOk_mem h.2 x hx
/-- An answer that is known: arguments, the rows that they reach, and what is returned. -/
structure Mm where
  vs : List T
  rows : List (Nat × VO)
  ans : T
noncomputable def memF (N : Nat) : List Mm → List T → S → Option T
  | [], _, _ => none
  | x :: l, vs, s => match beqA vs x.vs && (rowsOk s x.rows && Nat.ble s.nx N) with
    | true => some x.ans
    | false => memF N l vs s
/-- .. and is right, by a run of its own. -/
noncomputable def mmB (p : Pr) (n : Nat) (g : FuncId) (N : Nat) (x : Mm) : Bool := match callFn p (runC p n) g x.vs (memS N x.rows) with
  | .ok (t, s) => Nat.ble N s.low && (beqT t x.ans && flatT t)
  | .bad _ => false
theorem memF_sound {P : Program} {p : Pr} {n : Nat} {g : FuncId} {N : Nat} (ok : Ok P p) (lb : LibOk P p) : ∀ (l : List Mm), (∀ x ∈ l, mmB p n g N x = true) → ∀ vs s t, memF N l vs s = some t → ∀ ι us h, VL ι vs us → Sim P ι s h → CallsH P g us.toArray h (Post P ι s h t s)
  | [], _, vs, s, t, hd, _, _, _, _, _ => by cases hd
  | x :: l, hl, vs, s, t, hd, ι, us, h, hv, H => by
    unfold memF at hd
    split at hd
    · rename_i hc
      simp only [Bool.and_eq_true] at hc
      obtain ⟨h1, h2, h3⟩ := hc
      cases hd
      have hx := hl x List.mem_cons_self
      unfold mmB at hx
      split at hx
      · rename_i t s1 hr
        simp only [Bool.and_eq_true] at hx
        rw [beqA_sound h1] at hv
        rw [← beqT_sound hx.2.1]
        exact memo_sound ok (run_sound ok lb n) hr (ble_iff.1 hx.1) hx.2.2 h2 (ble_iff.1 h3) hv H
      · cases hx
    · exact memF_sound ok lb l (fun y hy => hl y (List.mem_cons_of_mem _ hy)) vs s t hd ι us h hv H
/-! ### an answer that is the same for a row in any order -/
noncomputable def anyP (f : List (List T) → List T → Bool) : List (List T) → List (List T) → Bool
  | _, [] => false
  | pre, e :: r => match f (pre ++ r) e with | true => true | false => anyP f (pre ++ [e]) r
noncomputable def allP (f : List (List T) → List T → Bool) : List (List T) → List (List T) → Bool
  | _, [] => true
  | pre, e :: r => match f (pre ++ r) e with | true => allP f (pre ++ [e]) r | false => false
theorem anyP_all {f g : List (List T) → List T → Bool} : ∀ {r pre : List (List T)}, anyP f pre r = true → allP g pre r = true → ∃ L e, f L e = true ∧ g L e = true
  | [], pre, h, _ => by cases h
  | e :: r, pre, h, k => by
    unfold anyP at h
    unfold allP at k
    split at k
    · rename_i hg
      split at h
      · rename_i hf; exact ⟨_, _, hf, hg⟩
      · exact anyP_all h k
    · cases k
/-- The row is the members of L, in some order. -/
noncomputable def permQ : Nat → List (List T) → List T → Bool
  | 0, _, cs => (match cs with | [] => true | _ => false)
  | n + 1, L, cs => anyP (fun L e => match beqA (cs.take e.length) e with | true => permQ n L (cs.drop e.length) | false => false) [] L
/-- For the members of L, in any order. -/
noncomputable def permA (g : List T → Bool) : Nat → List (List T) → List T → Bool
  | 0, _, pre => g pre
  | n + 1, L, pre => allP (fun L e => permA g n L (pre ++ e)) [] L
theorem permA_all {g : List T → Bool} : ∀ {n : Nat} {L : List (List T)} {pre cs : List T}, permA g n L pre = true → permQ n L cs = true → g (pre ++ cs) = true
  | 0, L, pre, cs, h, k => by
    cases cs with
    | nil => rw [List.append_nil]; exact h
    | cons => cases k
  | n + 1, L, pre, cs, h, k => by
    obtain ⟨L', e, h1, h2⟩ := anyP_all k h
    split at h1
    · rename_i hb
      have := permA_all h2 h1
      have he := beqA_sound hb
      have hcs : cs = e ++ cs.drop e.length := by
        have h3 := List.take_append_drop e.length cs
        rw [he] at h3
        exact h3.symm
      rw [hcs, ← List.append_assoc]
      exact this
    · cases h1
theorem allP_nil {f : List (List T) → List T → Bool} {pre : List (List T)} : allP f pre [] = true := rfl
theorem allP_cons {f : List (List T) → List T → Bool} {pre r : List (List T)} {e : List T} (h : f (pre ++ r) e = true) (h2 : allP f (pre ++ [e]) r = true) : allP f pre (e :: r) = true := by
  unfold allP
  rw [h]
  exact h2
theorem permA_step {g : List T → Bool} {n : Nat} {L : List (List T)} {pre : List T} (h : allP (fun L e => permA g n L (pre ++ e)) [] L = true) : permA g (n + 1) L pre = true := h
noncomputable def permF (N : Nat) (vs : List T) (b : Nat) (ct : TypeId) (tl : Bool) (L : List (List T)) (rows : List (Nat × VO)) (ans : T) : List T → S → Option T := fun ws s =>
  match beqA ws vs && Nat.ble s.nx N with
  | true => (match s.at b with
    | some (.row cs _ _) => (match permQ L.length L cs && rowsOk s ((b, .row cs ct tl) :: rows) with | true => some ans | false => none)
    | _ => none)
  | false => none
theorem permF_sound {P : Program} {p : Pr} {n : Nat} {g : FuncId} {N b : Nat} {vs : List T} {ct : TypeId} {tl : Bool} {L : List (List T)} {rows : List (Nat × VO)} {ans : T} (ok : Ok P p) (lb : LibOk P p) (hall : permA (fun cs => mmB p n g N ⟨vs, (b, .row cs ct tl) :: rows, ans⟩) L.length L [] = true) :
    ∀ ws s t, permF N vs b ct tl L rows ans ws s = some t → ∀ ι us h, VL ι ws us → Sim P ι s h → CallsH P g us.toArray h (Post P ι s h t s) := by
  intro ws s t hd ι us h hv H
  unfold permF at hd
  split at hd
  · rename_i hc
    simp only [Bool.and_eq_true] at hc
    split at hd
    · rename_i cs u y hb
      split at hd
      · rename_i hq
        simp only [Bool.and_eq_true] at hq
        cases hd
        have hx := permA_all hall hq.1
        rw [List.nil_append] at hx
        unfold mmB at hx
        split at hx
        · rename_i t s1 hr
          simp only [Bool.and_eq_true] at hx
          rw [beqA_sound hc.1] at hv
          rw [← beqT_sound hx.2.1]
          exact memo_sound ok (run_sound ok lb n) hr (ble_iff.1 hx.1) hx.2.2 hq.2 (ble_iff.1 hc.2) hv H
        · cases hx
      · cases hd
    · cases hd
  · cases hd
theorem allP_mem {f : List (List T) → List T → Bool} {e : List T} {b : List (List T)} : ∀ {a pre : List (List T)}, allP f pre (a ++ e :: b) = true → f (pre ++ a ++ b) e = true
  | [], pre, h => by
    simp only [List.nil_append] at h
    unfold allP at h
    split at h
    · rename_i hf; simpa using hf
    · cases h
  | x :: a, pre, h => by
    simp only [List.cons_append] at h
    unfold allP at h
    split at h
    · have := allP_mem h
      simpa using this
    · cases h
theorem permA_perm {g : List T → Bool} : ∀ {n : Nat} {L els : List (List T)} {pre : List T}, permA g n L pre = true → L.length = n → List.Perm els L → g (pre ++ els.flatten) = true
  | 0, L, els, pre, h, hl, hp => by
    have h1 : L = [] := List.length_eq_zero_iff.1 hl
    subst h1
    have h2 : els = [] := List.Perm.eq_nil hp
    subst h2
    simpa [permA] using h
  | n + 1, L, els, pre, h, hl, hp => by
    cases els with
    | nil =>
      have := hp.length_eq
      simp at this
      omega
    | cons e r =>
      have hm : e ∈ L := hp.mem_iff.1 (by simp)
      obtain ⟨a, b, rfl⟩ := List.append_of_mem hm
      have hr : List.Perm r (a ++ b) := (List.perm_cons e).1 (hp.trans List.perm_middle)
      have h1 := allP_mem (a := a) (pre := []) h
      simp only [List.nil_append] at h1
      have := permA_perm h1 (by simp at hl ⊢; omega) hr
      rw [List.flatten_cons, ← List.append_assoc]
      exact this
/-- An answer that is the same for a bag's members in any order. -/
noncomputable def noRow (b : Nat) : List (Nat × VO) → Bool
  | [] => true
  | x :: l => !(Nat.beq x.1 b) && noRow b l
theorem noRow_mem {b : Nat} : ∀ {l : List (Nat × VO)}, noRow b l = true → ∀ x ∈ l, x.1 ≠ b
  | [], _, x, hx => by simp at hx
  | y :: l, h, x, hx => by
    simp only [noRow, Bool.and_eq_true, Bool.not_eq_true'] at h
    rcases List.mem_cons.1 hx with rfl | hx
    · intro e; rw [e, Nat.beq_refl] at h; cases h.1
    · exact noRow_mem h.2 x hx
noncomputable def bagF (N : Nat) (vs : List T) (b : Nat) (ct : TypeId) (L : List (List T)) (rows : List (Nat × VO)) (ans : T) : List T → S → Option T := fun ws s =>
  match beqA ws vs && (Nat.ble s.nx N && (rowsOk s rows && noRow b rows)) with
  | true => (match s.at b with
    | some (.bag els u) => (match Nat.beq u ct && eqLL els L with | true => some ans | false => none)
    | _ => none)
  | false => none
theorem bagF_sound {P : Program} {p : Pr} {n : Nat} {g : FuncId} {N b : Nat} {vs : List T} {ct : TypeId} {L : List (List T)} {rows : List (Nat × VO)} {ans : T} (ok : Ok P p) (lb : LibOk P p) (hall : permA (fun cs => mmB p n g N ⟨vs, (b, .row cs ct true) :: rows, ans⟩) L.length L [] = true) :
    ∀ ws s t, bagF N vs b ct L rows ans ws s = some t → ∀ ι us h, VL ι ws us → Sim P ι s h → CallsH P g us.toArray h (Post P ι s h t s) := by
  intro ws s t hd ι us h hv H
  unfold bagF at hd
  split at hd
  · rename_i hc
    simp only [Bool.and_eq_true] at hc
    obtain ⟨k1, k2, k3, k4⟩ := hc
    split at hd
    · rename_i els u hb
      split at hd
      · rename_i hq
        simp only [Bool.and_eq_true] at hq
        cases hd
        obtain rfl := Nat.eq_of_beq_eq_true hq.1
        obtain rfl := eqLL_sound hq.2
        obtain ⟨y, ob, g1, g2, pe, cur, p1, p2, p3, p4, p5, p6, p7⟩ := H.obj _ _ hb
        have hx := permA_perm hall rfl p1
        rw [List.nil_append] at hx
        have hb16 : b ≤ 16383 := by
          unfold S.at at hb
          rw [ite_eq] at hb
          split at hb
          · rename_i hh; exact ble_iff.1 hh
          · cases hb
        have hat : ∀ c, (setQ s b (.row pe.flatten u true)).at c = if c = b then some (.row pe.flatten u true) else s.at c := fun c => by
          rw [at_setQ]; simp only [hb16, true_and]
        have hqn : (setQ s b (.row pe.flatten u true)).nx = s.nx := by unfold setQ setV; rw [ite_eq]; split <;> simp [En.setK_eq]
        have hql : (setQ s b (.row pe.flatten u true)).low = s.low := by unfold setQ setV; rw [ite_eq]; split <;> simp [En.setK_eq]
        generalize setQ s b (.row pe.flatten u true) = sr at hat hqn hql
        have live : ∀ c, sr.at c ≠ none → s.at c ≠ none := fun c hc => by
          by_cases hcb : c = b
          · subst hcb; rw [hb]; simp
          · rw [hat, if_neg hcb] at hc; exact hc
        have live2 : ∀ c, s.at c ≠ none → sr.at c ≠ none := fun c hc => by
          by_cases hcb : c = b
          · subst hcb; rw [hat, if_pos rfl]; simp
          · rw [hat, if_neg hcb]; exact hc
        have amr : ∀ c, amAt sr c = amAt s c := fun c => by
          unfold amAt
          by_cases hcb : c = b
          · subst hcb; rw [hb, hat, if_pos rfl]; rfl
          · rw [hat, if_neg hcb]
        have Hr : Sim P ι sr h := ⟨fun c y hy => by rw [hqn]; exact H.fresh c y hy, fun c d y z hc hd => H.inj c d y z (live c hc) (live d hd), fun c o ho => by
          by_cases hcb : c = b
          · subst hcb
            rw [hat, if_pos rfl] at ho; cases ho
            exact ⟨y, ob, g1, g2, cur, p2, p3, p4, fun h => (by cases h), fun _ => ⟨p5, p6, p7⟩⟩
          · rw [hat, if_neg hcb] at ho; exact H.obj c o ho⟩
        have hrows : ∀ x ∈ (b, VO.row pe.flatten u true) :: rows, sr.at x.1 = some x.2 ∧ x.2.am = false := fun x hx => by
          rcases List.mem_cons.1 hx with rfl | hx
          · exact ⟨by rw [hat, if_pos rfl], rfl⟩
          · rw [hat, if_neg (noRow_mem k4 x hx)]
            exact rowsOk_mem k3 x hx
        unfold mmB at hx
        split at hx
        · rename_i t s1 hr
          simp only [Bool.and_eq_true] at hx
          rw [beqA_sound k1] at hv
          rw [← beqT_sound hx.2.1]
          refine CallsH.mono (memo_soundP ok (run_sound ok lb n) hr (ble_iff.1 hx.1) hx.2.2 (memS_atP hrows) (by rw [hqn]; exact ble_iff.1 k2) hv Hr) ?_
          rintro v h' ⟨ι', q1, q2, q3⟩
          refine ⟨ι', ⟨q1.sub, Nat.le_refl _, Nat.le_refl _, q1.size, fun _ _ h => h, fun c y hy => ?_, fun _ _ _ h => h, fun r hr2 hcc => q1.old r hr2 fun c y hy he => ?_⟩, ⟨fun c y hy => by rw [← hqn]; exact q2.fresh c y hy, fun c d y z hc hd => q2.inj c d y z (live2 c hc) (live2 d hd), fun c o ho => ?_⟩, q3⟩
          · rcases q1.grow c y hy with g | ⟨g, g' | ⟨d, z, e1, e2, e3, e4⟩⟩
            · exact .inl g
            · exact .inr ⟨by rw [← hqn]; exact g, .inl g'⟩
            · exact .inr ⟨by rw [← hqn]; exact g, .inr ⟨d, z, e1, e2, by rw [← hql]; exact e3, live d e4⟩⟩
          · rcases hcc c y hy he with g | ⟨g, g'⟩
            · left
              cases hz : sr.at c with
              | none => rfl
              | some o => exact absurd g (live c (by rw [hz]; simp))
            · exact .inr ⟨by rw [hql]; exact g, by rw [amr]; exact g'⟩
          · by_cases hcb : c = b
            · subst hcb
              rw [hb] at ho; cases ho
              obtain ⟨z, ob2, e1, e2, cur2, e3, e4, e5, _, e7⟩ := q2.obj c (.row pe.flatten u true) (by rw [hat, if_pos rfl])
              obtain ⟨f1, f2, f3⟩ := e7 rfl
              exact ⟨z, ob2, e1, e2, pe, cur2, p1, e3, e4, e5, f1, f2, f3⟩
            · exact q2.obj c o (by rw [hat, if_neg hcb]; exact ho)
        · cases hx
      · cases hd
    · cases hd
  · cases hd
/-- One answer, or another one. -/
noncomputable def orF (f g : List T → S → Option T) : List T → S → Option T := fun vs s => match f vs s with | some t => some t | none => g vs s
/-- What is known of a call: what it returns, and the state behind it. -/
abbrev Ans := List T → S → Option (T × S)
/-- The same evaluator, with answers that are known. -/
noncomputable def withM (p : Pr) (mem : Nat → Option Ans) : Pr := ⟨p.ty, p.fn, p.lib, p.ext, mem⟩
theorem withM_ok {P : Program} {p : Pr} (ok : Ok P p) (mem : Nat → Option Ans) : Ok P (withM p mem) := ⟨ok.ext, ok.ty, ok.fn, ok.mixed⟩
theorem withM_lb {P : Program} {p : Pr} (lb : LibOk P p) {mem : Nat → Option Ans} (hm : ∀ g f vs s t s', mem g = some f → f vs s = some (t, s') → ∀ ι us h, VL ι vs us → Sim P ι s h → CallsH P g us.toArray h (Post P ι s h t s')) : LibOk P (withM p mem) := ⟨lb.lib, hm⟩
/-- A call that extends the heap, and returns a value that lies in no new block. -/
theorem post_ext {P : Program} {ι : Io} {s : S} {h h' : Heap} {t : T} {v : Value} (H : Sim P ι s h) (x : Ext h h') (hv : VR ι t v) : Post P ι s h t s v h' :=
  ⟨ι, ⟨fun _ _ hx => hx, Nat.le_refl _, Nat.le_refl _, x.size, fun _ _ hx => hx, fun _ _ hx => .inl hx, fun _ _ _ hx => hx, fun r hr _ => x.old r hr⟩, ⟨fun b y hy => ⟨(H.fresh b y hy).1, Nat.lt_of_lt_of_le (H.fresh b y hy).2 x.size⟩, H.inj, fun b o hb => by
    obtain ⟨y, ob, h1, h2, h3⟩ := H.obj b o hb
    exact ⟨y, ob, h1, (x.old y.r (H.fresh b y h1).2).trans h2, h3⟩⟩, hv⟩
/-- A function without arguments that returns true. -/
noncomputable def memT : List T → S → Option T
  | [], _ => some (.bool true)
  | _ :: _, _ => none
theorem memT_sound {P : Program} {g : FuncId} (W : ∀ h, CallsH P g #[] h (fun v h' => v = .bool true ∧ Ext h h')) : ∀ vs s t, memT vs s = some t → ∀ ι us h, VL ι vs us → Sim P ι s h → CallsH P g us.toArray h (Post P ι s h t s) := by
  intro vs s t hd ι us h hv H
  cases vs with
  | nil =>
    cases hd
    simp only [VL] at hv
    subst hv
    refine CallsH.mono (W h) ?_
    rintro v h' ⟨rfl, x⟩
    exact post_ext H x (by simp only [VR])
  | cons a l => cases hd
def MemOk (P : Program) (g : FuncId) (f : List T → S → Option T) : Prop := ∀ vs s t, f vs s = some t → ∀ ι us h, VL ι vs us → Sim P ι s h → CallsH P g us.toArray h (Post P ι s h t s)
theorem orF_ok {P : Program} {g : FuncId} {f k : List T → S → Option T} (hf : MemOk P g f) (hk : MemOk P g k) : MemOk P g (orF f k) := by
  intro vs s t hd
  unfold orF at hd
  split at hd
  · rename_i h; cases hd; exact hf vs s _ h
  · exact hk vs s t hd
def AnsOk (P : Program) (g : FuncId) (f : Ans) : Prop := ∀ vs s t s', f vs s = some (t, s') → ∀ ι us h, VL ι vs us → Sim P ι s h → CallsH P g us.toArray h (Post P ι s h t s')
/-- An answer that leaves the state alone. -/
noncomputable def flatM (f : List T → S → Option T) : Ans := fun vs s => match f vs s with | some t => some (t, s) | none => none
theorem flatM_ok {P : Program} {g : FuncId} {f : List T → S → Option T} (hf : MemOk P g f) : AnsOk P g (flatM f) := by
  intro vs s t s' hd
  unfold flatM at hd
  split at hd
  · rename_i h; cases hd; exact hf vs s _ h
  · cases hd
/-- One answer, or else another one. -/
noncomputable def orM (f g : Ans) : Ans := fun vs s => match f vs s with | some r => some r | none => g vs s
theorem orM_ok {P : Program} {i : FuncId} {f g : Ans} (hf : AnsOk P i f) (hg : AnsOk P i g) : AnsOk P i (orM f g) := by
  intro vs s t s' hd
  unfold orM at hd
  split at hd
  · rename_i h; cases hd; exact hf vs s t s' h
  · exact hg vs s t s' hd
/-- Tables of answers, by functions. -/
noncomputable def memsOf : List (Nat × Ans) → Nat → Option Ans
  | [], _ => none
  | x :: l, g => ite (Nat.beq x.1 g) (some x.2) (memsOf l g)
theorem memsOf_sound {P : Program} : ∀ (l : List (Nat × Ans)), (∀ x ∈ l, AnsOk P x.1 x.2) → ∀ g f, memsOf l g = some f → AnsOk P g f
  | [], _, g, f, h => by cases h
  | x :: l, hl, g, f, h => by
    unfold memsOf at h
    rw [ite_eq] at h
    split at h
    · rename_i hb
      cases h
      rw [← natB hb]
      exact hl x List.mem_cons_self
    · exact memsOf_sound l (fun y hy => hl y (List.mem_cons_of_mem _ hy)) g f h
theorem memsOf_lb {P : Program} {p : Pr} (lb : LibOk P p) (l : List (Nat × Ans)) (hl : ∀ x ∈ l, AnsOk P x.1 x.2) : LibOk P (withM p (memsOf l)) :=
  withM_lb lb fun g f vs s t s' hg hd => memsOf_sound l hl g f hg vs s t s' hd
/-! ### answers with blocks of their own -/
structure Mr where
  vs : List T
  rows : List (Nat × VO)
  ans : T
  news : List (Nat × VO)
noncomputable def rho2 (K N : Nat) (L : List Nat) (b : Nat) : Option Nat := match Nat.blt b K with
  | true => some b
  | false => (match Nat.blt b N with | true => none | false => idxN b L K)
noncomputable def newOpt (s : S) (o : Option VO) : S := forceN (Nat.succ s.nx) fun n => setV s s.nx o n s.low
noncomputable def addR (ρ : Nat → Option Nat) : List (Nat × VO) → S → S
  | [], s => s
  | x :: l, s => match renO ρ x.2 with
    | some o => addR ρ l (newOpt s (some o))
    | none => addR ρ l (newOpt s none)
noncomputable def fsts : List (Nat × VO) → List Nat
  | [] => []
  | x :: l => x.1 :: fsts l
noncomputable def memR (N : Nat) : List Mr → Ans
  | [], _, _ => none
  | x :: l, vs, s => match beqA vs x.vs && (rowsOk s x.rows && Nat.ble s.nx N) with
    | true => some (ren3 (rho2 s.nx N (fsts x.news)) x.ans, addR (rho2 s.nx N (fsts x.news)) x.news s)
    | false => memR N l vs s
noncomputable def newsOk (N : Nat) (s : S) : List (Nat × VO) → Bool
  | [] => true
  | x :: l => Nat.ble N x.1 && ((match s.at x.1 with | some o => eqVO o x.2 | none => false) && newsOk N s l)
noncomputable def mrB (p : Pr) (n : Nat) (g : FuncId) (N : Nat) (x : Mr) : Bool := match callFn p (runC p n) g x.vs (memS N x.rows) with
  | .ok (t, s) => Nat.ble N s.low && (eqV t x.ans && (nodupB (fsts x.news) && newsOk N s x.news))
  | .bad _ => false
theorem fsts_get : ∀ {l : List (Nat × VO)} {i b : Nat}, (fsts l)[i]? = some b → ∃ o, l[i]? = some (b, o)
  | [], i, b, h => by simp [fsts] at h
  | x :: l, 0, b, h => by simp only [fsts, List.getElem?_cons_zero, Option.some.injEq] at h; subst h; exact ⟨x.2, rfl⟩
  | x :: l, i + 1, b, h => by
    simp only [fsts, List.getElem?_cons_succ] at h ⊢
    exact fsts_get h
theorem fsts_len : ∀ (l : List (Nat × VO)), (fsts l).length = l.length
  | [] => rfl
  | x :: l => by simp only [fsts, List.length_cons, fsts_len l]
theorem newsOk_mem {N : Nat} {s : S} : ∀ {l : List (Nat × VO)}, newsOk N s l = true → ∀ x ∈ l, N ≤ x.1 ∧ s.at x.1 = some x.2
  | [], _, x, hx => by simp at hx
  | y :: l, h, x, hx => by
    simp only [newsOk, Bool.and_eq_true] at h
    rcases List.mem_cons.1 hx with rfl | hx
    · refine ⟨ble_iff.1 h.1, ?_⟩
      have h2 := h.2.1
      split at h2
      · rename_i o ho; rw [ho, eqVO_sound h2]
      · cases h2
    · exact newsOk_mem h.2.2 x hx
theorem newOpt_at (s : S) (o : Option VO) (c : Nat) : (newOpt s o).at c = (if s.nx ≤ 16383 ∧ c = s.nx then o else s.at c) ∧ (newOpt s o).nx = s.nx + 1 ∧ (newOpt s o).low = s.low := by
  unfold newOpt
  rw [forceN_eq]
  refine ⟨at_setV s s.nx c o _ _, ?_, ?_⟩
  · unfold setV; rw [ite_eq]; split <;> simp [En.setK_eq]
  · unfold setV; rw [ite_eq]; split <;> simp [En.setK_eq]
theorem addR_at (ρ : Nat → Option Nat) : ∀ (l : List (Nat × VO)) (s : S) (c : Nat), (c < s.nx → (addR ρ l s).at c = s.at c) ∧
    (s.nx ≤ c → c < s.nx + l.length → (addR ρ l s).at c = none ∨ ∃ b o, l[c - s.nx]? = some (b, o) ∧ (addR ρ l s).at c = renO ρ o) ∧ (s.nx + l.length ≤ c → (addR ρ l s).at c = s.at c) ∧ (addR ρ l s).nx = s.nx + l.length ∧ (addR ρ l s).low = s.low
  | [], s, c => ⟨fun _ => rfl, fun h1 h2 => by simp at h2; omega, fun _ => rfl, rfl, rfl⟩
  | x :: l, s, c => by
    have key : ∀ o, renO ρ x.2 = o → (c < s.nx → (addR ρ l (newOpt s o)).at c = s.at c) ∧
        (s.nx ≤ c → c < s.nx + (x :: l).length → (addR ρ l (newOpt s o)).at c = none ∨ ∃ b o', (x :: l)[c - s.nx]? = some (b, o') ∧ (addR ρ l (newOpt s o)).at c = renO ρ o') ∧ (s.nx + (x :: l).length ≤ c → (addR ρ l (newOpt s o)).at c = s.at c) ∧ (addR ρ l (newOpt s o)).nx = s.nx + (x :: l).length ∧ (addR ρ l (newOpt s o)).low = s.low := fun o ho => by
      obtain ⟨n1, n2, n3⟩ := newOpt_at s o c
      obtain ⟨i1, i2, i3, i4, i5⟩ := addR_at ρ l (newOpt s o) c
      rw [n2] at i1 i2 i3 i4
      rw [n3] at i5
      rw [List.length_cons]
      refine ⟨fun h => ?_, fun h1 h2 => ?_, fun h => ?_, by rw [i4]; omega, i5⟩
      · rw [i1 (by omega), n1, if_neg (by omega)]
      · by_cases hc : c = s.nx
        · rw [i1 (by omega), n1]
          by_cases hb : s.nx ≤ 16383
          · rw [if_pos ⟨hb, hc⟩]
            exact .inr ⟨x.1, x.2, by rw [hc]; simp, ho.symm⟩
          · left
            rw [if_neg (fun hh => hb hh.1)]
            unfold S.at
            rw [ite_eq, if_neg]
            intro hh
            have := ble_iff.1 hh
            omega
        · rcases i2 (by omega) (by omega) with h3 | ⟨b, o', h3, h4⟩
          · exact .inl h3
          · refine .inr ⟨b, o', ?_, h4⟩
            rw [show c - s.nx = (c - (s.nx + 1)) + 1 by omega, List.getElem?_cons_succ]
            exact h3
      · rw [i3 (by omega), n1, if_neg (by omega)]
    unfold addR
    split
    · rename_i o ho; exact key _ ho
    · rename_i ho; exact key _ ho
/-- What a call does from the rows that it reaches alone. -/
def HC (P : Program) (g : FuncId) (N : Nat) (x : Mr) : Prop := ∀ (ι : Io) (us : List Value) (h : Heap), VL ι x.vs us → Sim P ι (memS N x.rows) h →
  CallsH P g us.toArray h (fun v h' => ∃ s1, N ≤ s1.low ∧ (fsts x.news).Nodup ∧ (∀ y ∈ x.news, N ≤ y.1 ∧ s1.at y.1 = some y.2) ∧ Post P ι (memS N x.rows) h x.ans s1 v h')
theorem memoR_core {P : Program} {ι : Io} {s : S} {h : Heap} {N : Nat} {rows news : List (Nat × VO)} {g : FuncId} {vs : List T} {us : List Value} {t : T} (hc : HC P g N ⟨vs, rows, t, news⟩) (hr : rowsOk s rows = true) (hn : s.nx ≤ N) (hv : VL ι vs us) (H : Sim P ι s h) :
    CallsH P g us.toArray h (Post P ι s h (ren3 (rho2 s.nx N (fsts news)) t) (addR (rho2 s.nx N (fsts news)) news s)) := by
  have hm := memS_at (N := N) hr
  have live : ∀ b, (memS N rows).at b ≠ none → s.at b ≠ none := fun b hb => by
    rcases hm b with h1 | ⟨h1, _⟩
    · exact absurd h1 hb
    · rw [← h1]; exact hb
  have H1 : Sim P ι (memS N rows) h := ⟨fun b x hx => ⟨Nat.lt_of_lt_of_le (H.fresh b x hx).1 hn, (H.fresh b x hx).2⟩, fun b c x y hb hc => H.inj b c x y (live b hb) (live c hc), fun b o hb => by
    rcases hm b with h1 | ⟨h1, _⟩
    · rw [h1] at hb; cases hb
    · exact H.obj b o (h1 ▸ hb)⟩
  refine CallsH.mono (hc ι us h hv H1) ?_
  rintro v h' ⟨s1, hlow, hnd, hnews, ι1, st, sm, hv'⟩
  simp only at hnd hnews hv'
  have noAm : ∀ b, amAt (memS N rows) b = false := fun b => by
    rcases hm b with h1 | ⟨h1, h2⟩
    · unfold amAt; rw [h1]
    · unfold amAt at h2 ⊢; rw [h1]; exact h2
  have same : ∀ r, r < h.size → h'[r]? = h[r]? := fun r hr2 => st.old r hr2 fun b x hx he => .inr ⟨Nat.lt_of_lt_of_le (Nat.lt_of_lt_of_le (H.fresh b x hx).1 hn) hlow, noAm b⟩
  have ngrow : ∀ b x, ι1 b = some x → ι b = some x ∨ (N ≤ b ∧ h.size ≤ x.r) := fun b x hx => by
    rcases st.grow b x hx with h1 | ⟨h1, h2 | ⟨c, y, h2, h3, h4, h5⟩⟩
    · exact .inl h1
    · exact .inr ⟨h1, h2⟩
    · have := (H.fresh c y h2).1
      omega
  have hL : ∀ k b, (fsts news)[k]? = some b → N ≤ b ∧ ∃ o, news[k]? = some (b, o) ∧ s1.at b = some o := fun k b hk => by
    obtain ⟨o, ho⟩ := fsts_get hk
    have := hnews (b, o) (List.mem_of_getElem? ho)
    exact ⟨this.1, o, ho, this.2⟩
  obtain ⟨ι2, hι2⟩ : ∃ ι2 : Io, ι2 = fun c => if c < s.nx then ι c else match (fsts news)[c - s.nx]? with | some b => ι1 b | none => none := ⟨_, rfl⟩
  have lo2 : ∀ c, c < s.nx → ι2 c = ι c := fun c hc => by rw [hι2]; simp only [hc, if_true]
  have hi2 : ∀ c x, s.nx ≤ c → ι2 c = some x → ∃ b, (fsts news)[c - s.nx]? = some b ∧ ι1 b = some x := fun c x hc hx => by
    rw [hι2] at hx
    simp only [show ¬ c < s.nx by omega, if_false] at hx
    split at hx
    · rename_i b hb; exact ⟨b, hb, hx⟩
    · cases hx
  have hi3 : ∀ c b, s.nx ≤ c → (fsts news)[c - s.nx]? = some b → ι2 c = ι1 b := fun c b hc hb => by
    rw [hι2]
    simp only [show ¬ c < s.nx by omega, if_false, hb]
  have hρ : ∀ b c, rho2 s.nx N (fsts news) b = some c → ι2 c = ι1 b := fun b c hbc => by
    unfold rho2 at hbc
    split at hbc
    · rename_i hb
      cases hbc
      have hb := blt_iff.1 hb
      rw [lo2 _ hb]
      cases hq : ι b with
      | some x => exact (st.sub _ _ hq).symm
      | none =>
        cases hq1 : ι1 b with
        | none => rfl
        | some x =>
          rcases ngrow b x hq1 with h1 | ⟨h1, _⟩
          · rw [hq] at h1; cases h1
          · omega
    · split at hbc
      · cases hbc
      · obtain ⟨h1, h2⟩ := idxN_at hbc
        exact hi3 c b h1 h2
  have sub2 : Sub ι ι2 := fun b x hx => by rw [lo2 b (H.fresh b x hx).1]; exact hx
  have flen := fsts_len news
  have hat := addR_at (rho2 s.nx N (fsts news)) news s
  have hnx := (hat 0).2.2.2.1
  have hlw := (hat 0).2.2.2.2
  have pre : ∀ c v, (addR (rho2 s.nx N (fsts news)) news s).at c = some v → (c < s.nx ∧ s.at c = some v) ∨ (s.nx ≤ c ∧ ∃ b o, (fsts news)[c - s.nx]? = some b ∧ s1.at b = some o ∧ renO (rho2 s.nx N (fsts news)) o = some v) := fun c v hv => by
    obtain ⟨a1, a2, a3, _, _⟩ := hat c
    by_cases h1 : c < s.nx
    · rw [a1 h1] at hv; exact .inl ⟨h1, hv⟩
    · by_cases h2 : c < s.nx + news.length
      · rcases a2 (by omega) h2 with h3 | ⟨b, o, h3, h4⟩
        · rw [h3] at hv; cases hv
        · rw [h4] at hv
          have hb : (fsts news)[c - s.nx]? = some b := by
            have hlt : c - s.nx < (fsts news).length := by omega
            obtain ⟨b', hb'⟩ : ∃ b', (fsts news)[c - s.nx]? = some b' := ⟨_, List.getElem?_eq_getElem hlt⟩
            obtain ⟨o', ho'⟩ := fsts_get hb'
            rw [h3] at ho'; cases ho'
            exact hb'
          obtain ⟨_, o', g1, g2⟩ := hL _ _ hb
          rw [h3] at g1; cases g1
          exact .inr ⟨by omega, b, o, hb, g2, hv⟩
      · rw [a3 (by omega)] at hv
        obtain ⟨y, ob, g1, _⟩ := H.obj c v hv
        have := (H.fresh c y g1).1
        omega
  refine ⟨ι2, ⟨sub2, by rw [hnx]; omega, by rw [hlw]; exact Nat.le_refl _, st.size, fun b hb hz => by rw [(hat b).1 hb]; exact hz, fun c x hx => ?_, fun b x hx hz => ?_, fun r hr _ => same r hr⟩, ⟨fun c x hx => ?_, fun c d x y hc hd2 hx hy he => ?_, fun c v hv => ?_⟩, ?_⟩
  · by_cases hc : c < s.nx
    · rw [lo2 c hc] at hx; exact .inl hx
    · obtain ⟨b, hb, hb2⟩ := hi2 c x (by omega) hx
      obtain ⟨hNb, _⟩ := hL _ _ hb
      rcases ngrow b x hb2 with h1 | ⟨_, h1⟩
      · have := (H.fresh b x h1).1; omega
      · exact .inr ⟨by omega, .inl h1⟩
  · have hb := (H.fresh b x hx).1
    unfold amAt at hz ⊢
    rw [(hat b).1 hb] at hz
    exact hz
  · rw [hnx]
    by_cases hc : c < s.nx
    · rw [lo2 c hc] at hx
      exact ⟨by omega, Nat.lt_of_lt_of_le (H.fresh c x hx).2 st.size⟩
    · obtain ⟨b, hb, hb2⟩ := hi2 c x (by omega) hx
      have := (List.getElem?_eq_some_iff.1 hb).1
      exact ⟨by omega, (sm.fresh b x hb2).2⟩
  · cases hvc : (addR (rho2 s.nx N (fsts news)) news s).at c with
    | none => exact absurd hvc hc
    | some vc =>
      cases hvd : (addR (rho2 s.nx N (fsts news)) news s).at d with
      | none => exact absurd hvd hd2
      | some vd =>
        rcases pre c vc hvc with ⟨c1, c2⟩ | ⟨c1, b, o, c2, c3, _⟩
        · rw [lo2 c c1] at hx
          rcases pre d vd hvd with ⟨d1, d2⟩ | ⟨d1, b', o', d2, d3, _⟩
          · rw [lo2 d d1] at hy
            exact H.inj c d x y (by rw [c2]; simp) (by rw [d2]; simp) hx hy he
          · obtain ⟨b2, hb2, hb3⟩ := hi2 d y d1 hy
            rw [d2] at hb2; cases hb2
            have := hL _ _ d2
            rcases ngrow b' y hb3 with h1 | ⟨_, h1⟩
            · have := (H.fresh b' y h1).1; omega
            · have := (H.fresh c x hx).2; omega
        · obtain ⟨b2, hb2, hb3⟩ := hi2 c x c1 hx
          rw [c2] at hb2; cases hb2
          have hNb := (hL _ _ c2).1
          rcases pre d vd hvd with ⟨d1, d2⟩ | ⟨d1, b', o', d2, d3, _⟩
          · rw [lo2 d d1] at hy
            rcases ngrow b x hb3 with h1 | ⟨_, h1⟩
            · have := (H.fresh b x h1).1; omega
            · have := (H.fresh d y hy).2; omega
          · obtain ⟨b4, hb4, hb5⟩ := hi2 d y d1 hy
            rw [d2] at hb4; cases hb4
            have heq := sm.inj b b' x y (by rw [c3]; simp) (by rw [d3]; simp) hb3 hb5 he
            subst heq
            have hlen := (List.getElem?_eq_some_iff.1 c2).1
            have := (List.getElem?_inj hlen hnd).1 (c2.trans d2.symm)
            omega
  · rcases pre c v hv with ⟨c1, c2⟩ | ⟨c1, b, o, c2, c3, c4⟩
    · obtain ⟨y, ob, g1, g2, g3⟩ := H.obj c v c2
      exact ⟨y, ob, sub2 _ _ g1, (same y.r (H.fresh c y g1).2).trans g2, OR.mono sub2 g3⟩
    · obtain ⟨y, ob, g1, g2, g3⟩ := sm.obj b o c3
      exact ⟨y, ob, by rw [hi3 c b c1 c2]; exact g1, g2, renO_OR hρ c4 g3⟩
  · exact ren3_VR hρ hv'
theorem mrB_HC {P : Program} {p : Pr} {n : Nat} {g : FuncId} {N : Nat} {x : Mr} (ok : Ok P p) (lb : LibOk P p) (hx : mrB p n g N x = true) : HC P g N x := by
  intro ι us h hv H
  unfold mrB at hx
  split at hx
  · rename_i t s1 hr
    simp only [Bool.and_eq_true] at hx
    refine CallsH.mono (fn_sound ok (run_sound ok lb n) hr hv H) fun v h' hp => ?_
    rw [eqV_sound hx.2.1] at hp
    exact ⟨s1, ble_iff.1 hx.1, nodupB_sound hx.2.2.1, newsOk_mem hx.2.2.2, hp⟩
  · cases hx
theorem memC_sound {P : Program} {g : FuncId} {N : Nat} : ∀ (l : List Mr), (∀ x ∈ l, HC P g N x) → AnsOk P g (memR N l)
  | [], _, vs, s, t, s', hd, _, _, _, _, _ => by cases hd
  | x :: l, hl, vs, s, t, s', hd, ι, us, h, hv, H => by
    unfold memR at hd
    split at hd
    · rename_i hc
      simp only [Bool.and_eq_true] at hc
      obtain ⟨h1, h2, h3⟩ := hc
      cases hd
      rw [beqA_sound h1] at hv
      exact memoR_core (hl x List.mem_cons_self) h2 (ble_iff.1 h3) hv H
    · exact memC_sound l (fun y hy => hl y (List.mem_cons_of_mem _ hy)) vs s t s' hd ι us h hv H
theorem memR_sound {P : Program} {p : Pr} {n : Nat} {g : FuncId} {N : Nat} (ok : Ok P p) (lb : LibOk P p) (l : List Mr) (hl : ∀ x ∈ l, mrB p n g N x = true) : AnsOk P g (memR N l) :=
  memC_sound l fun x hx => mrB_HC ok lb (hl x hx)
/-! ### a call's run in pieces, blocks and loops laid open -/
/-- A loop's rounds, so many at the most. -/
def RW (P : Program) (b : Code) (k : Cont) : Nat → Env → List Deferred → Heap → Prop
  | 0, _, _, _ => False
  | n + 1, er, dr, h => WP none P b (fun x er dr h => match x with | .normal => RW P b k n er dr h | x => k x er dr h) er dr h
theorem RW_rounds {P : Program} {b : Code} {k k2 : Cont} (hk : ∀ x er dr h, x ≠ .normal → k x er dr h → k2 x er dr h) : ∀ (n : Nat) (er : Env) (dr : List Deferred) (h : Heap), RW P b k n er dr h → ∀ w : World, w.heap = h → Code.roundsIn (fen none) 0 P b (fun x a w' => k2 x a.tmps.toList a.defers w'.heap ∧ Eng.Rest w w') n ⟨er.toArray, dr⟩ w
  | 0, er, dr, h, H, w, hw => H.elim
  | n + 1, er, dr, h, H, w, hw => by
    rw [roundsIn_succ]
    refine wpIn_mono (WP_elim H w hw) ?_
    rintro x a' w' ⟨hx, hr⟩
    cases x with
    | normal =>
      have := RW_rounds hk n _ _ _ hx w' rfl
      rw [toList_act] at this
      exact roundsIn_mono (fun x a w3 ⟨h1, h2⟩ => ⟨h1, hr.trans h2⟩) _ _ _ this
    | _ => exact ⟨hk _ _ _ _ (by simp) hx, hr⟩
theorem RW_loop {P : Program} {b : Code} {k k2 : Cont} (hk : ∀ x er dr h, x ≠ .normal → k x er dr h → k2 x er dr h) {n : Nat} {er : Env} {dr : List Deferred} {h : Heap} (H : RW P b k n er dr h) : WP none P (.loop b) k2 er dr h :=
  WP_intro fun w hw => wpIn_loop_rounds n (RW_rounds hk n er dr h H w hw)
/-- What is laid open: a block with what follows it, a loop with how many rounds more it may have. -/
inductive Fr where
  | blk (i : Nat) (cs : List Code)
  | lp (b : Code) (n : Nat)
def contK (P : Program) : List Fr → Cont → Cont
  | [], K => K
  | .blk i cs :: st, K => fun x er dr h => match inB i x with | .normal => WPs none P cs (contK P st K) er dr h | x => contK P st K x er dr h
  | .lp b n :: st, K => fun x er dr h => match x with | .normal => RW P b (contK P st K) n er dr h | x => contK P st K x er dr h
/-- Where a run goes on that has ended so. -/
noncomputable def unwind : Ex → List Fr → Option (List Code × List Fr)
  | _, [] => none
  | .normal, .blk _ cs :: st => some (cs, st)
  | .normal, .lp b (n + 1) :: st => some (segs b, .lp b n :: st)
  | .exit j, .blk i cs :: st => (match Nat.beq j i with | true => some (cs, st) | false => unwind (.exit j) st)
  | .exit j, .lp _ _ :: st => unwind (.exit j) st
  | _, _ :: _ => none
theorem unwind_sound {P : Program} {K : Cont} {er : Env} {dr : List Deferred} {h : Heap} {cs : List Code} {st2 : List Fr} : ∀ {st : List Fr} {x : Ex}, unwind x st = some (cs, st2) → WPs none P cs (contK P st2 K) er dr h → contK P st K (exR x) er dr h
  | [], x, hu, _ => by cases x <;> cases hu
  | .blk i cs' :: st, .normal, hu, H => by cases hu; exact H
  | .lp b (n + 1) :: st, .normal, hu, H => by cases hu; exact segs_WP b H
  | .lp b 0 :: st, .normal, hu, H => by cases hu
  | .blk i cs' :: st, .exit j, hu, H => by
    unfold unwind at hu
    split at hu
    · rename_i hb
      cases hu
      have hi : inB i (.exit j) = .normal := by simp only [inB]; rw [if_pos (Nat.eq_of_beq_eq_true hb)]
      show (match inB i (.exit j) with | .normal => WPs none P cs (contK P st2 K) er dr h | x => contK P st2 K x er dr h)
      rw [hi]
      exact H
    · rename_i hb
      have := unwind_sound (x := .exit j) hu H
      have hi : inB i (.exit j) = .exit j := by simp only [inB]; rw [if_neg (fun e => by subst e; rw [Nat.beq_refl] at hb; cases hb)]
      show (match inB i (.exit j) with | .normal => WPs none P cs' (contK P st K) er dr h | x => contK P st K x er dr h)
      rw [hi]
      exact this
  | .lp b n :: st, .exit j, hu, H => by
    have hu : unwind (.exit j) st = some (cs, st2) := by cases n <;> exact hu
    exact unwind_sound (st := st) (x := .exit j) hu H
  | .blk i cs' :: st, .ret, hu, H => by cases hu
  | .lp b n :: st, .ret, hu, H => by cases n <;> cases hu
  | .blk i cs' :: st, .goto j, hu, H => by cases hu
  | .lp b n :: st, .goto j, hu, H => by cases n <;> cases hu
theorem contK_ret {P : Program} {K : Cont} {er : Env} {dr : List Deferred} {h : Heap} (H : K .ret er dr h) : ∀ st : List Fr, contK P st K .ret er dr h
  | [] => H
  | .blk i cs :: st => contK_ret H st
  | .lp b n :: st => contK_ret H st
theorem WPs_open {P : Program} {i : Nat} {b : Code} {cs : List Code} {st : List Fr} {K : Cont} {er : Env} {dr : List Deferred} {h : Heap} (H : WPs none P (segs b) (contK P (.blk i cs :: st) K) er dr h) : WPs none P (.block i b :: cs) (contK P st K) er dr h := by
  unfold WPs
  refine WP_blockE (WP_mono ?_ (segs_WP b H))
  intro x er dr h hx
  have hx : (match inB i x with | .normal => WPs none P cs (contK P st K) er dr h | x => contK P st K x er dr h) := hx
  cases hib : inB i x <;> rw [hib] at hx <;> exact hx
noncomputable def segX (p : Pr) (n : Nat) (m : Fm) (cs : List Code) (ks bs : List Nat) (e : E) (d : List Nat) (s : S) : Option (Ex × E × List Nat × S) :=
  match runL (runC p n) m none cs e d s with
  | .ok ⟨x, e, d, s⟩ => some (x, keepFr m ks e (.leaf .any), d, ⟨keepV bs s (.leaf none), s.nx, s.low⟩)
  | _ => none
/-- A call's end: what it returns, and its new blocks. -/
noncomputable def lastX (p : Pr) (n : Nat) (m : Fm) (rs : List ResultVar) (cs : List Code) (ans : T) (news : List (Nat × VO)) (N : Nat) (e : E) (d : List Nat) (s : S) : Bool :=
  match runL (runC p n) m none cs e d s with
  | .ok ⟨x, e, d, s⟩ => (match x with
    | .ret => (match endFn p m rs e d s with
      | .ok (t, s) => Nat.ble N s.low && (eqV t ans && (nodupB (fsts news) && newsOk N s news))
      | .bad _ => false)
    | _ => false)
  | _ => false
inductive ChR (p : Pr) (n : Nat) (m : Fm) (rs : List ResultVar) (ans : T) (news : List (Nat × VO)) (N : Nat) : List Code → List Fr → E → List Nat → S → Prop
  | last {cs st e d s} : lastX p n m rs cs ans news N e d s = true → ChR p n m rs ans news N cs st e d s
  | run {cs st e d s e2 d2 s2} (k : Nat) (ks bs : List Nat) : segX p n m (cs.take k) ks bs e d s = some (.normal, e2, d2, s2) → ChR p n m rs ans news N (cs.drop k) st e2 d2 s2 → ChR p n m rs ans news N cs st e d s
  | stop {cs st e d s x e2 d2 s2 cs2 st2} (ks bs : List Nat) : segX p n m cs ks bs e d s = some (x, e2, d2, s2) → unwind x st = some (cs2, st2) → ChR p n m rs ans news N cs2 st2 e2 d2 s2 → ChR p n m rs ans news N cs st e d s
  | open_ {i b cs st e d s} : ChR p n m rs ans news N (segs b) (.blk i cs :: st) e d s → ChR p n m rs ans news N (.block i b :: cs) st e d s
  | loop {b cs st e d s} (k : Nat) : ChR p n m rs ans news N (segs b) (.lp b k :: st) e d s → ChR p n m rs ans news N (.loop b :: cs) st e d s
theorem chR_sound {P : Program} {p : Pr} {n : Nat} {m : Fm} {rs : List ResultVar} {ans : T} {news : List (Nat × VO)} {N : Nat} (ok : Ok P p) (lb : LibOk P p) {ι0 : Io} {sA : S} {h0 : Heap} (H0 : Sim P ι0 sA h0) {cs : List Code} {st : List Fr} {e : E} {d : List Nat} {s : S} (C : ChR p n m rs ans news N cs st e d s) :
    ∀ (ι : Io) (er : Env) (dr : List Deferred) (h : Heap), RE ι m e er → Sim P ι s h → DL ι d dr → Ste ι0 sA h0 ι s h →
    WPs none P cs (contK P st (retK P rs (fun v h' => ∃ s1, N ≤ s1.low ∧ (fsts news).Nodup ∧ (∀ x ∈ news, N ≤ x.1 ∧ s1.at x.1 = some x.2) ∧ Post P ι0 sA h0 ans s1 v h'))) er dr h := by
  have weak : ∀ {ι : Io} {er : Env} {h : Heap} {e1 : E} {s1 : S} (ks bs : List Nat), RE ι m e1 er → Sim P ι s1 h → Ste ι0 sA h0 ι s1 h → RE ι m (keepFr m ks e1 (.leaf .any)) er ∧ Sim P ι ⟨keepV bs s1 (.leaf none), s1.nx, s1.low⟩ h ∧ Ste ι0 sA h0 ι ⟨keepV bs s1 (.leaf none), s1.nx, s1.low⟩ h := fun {ι er h e1 s1} ks bs q3 q2 q => by
    have hw := keepV_at s1 bs (.leaf none) s1.nx s1.low fun b => .inr (by simp [S.at, En.get_leaf, ite_eq])
    have ra : RE ι m (.leaf .any) er := ⟨q3.len, q3.fit, fun i hi => by rw [En.get_leaf]; simp [VR]⟩
    exact ⟨keepFr_RE q3 ks _ ra, weaken_sim q2 hw rfl, q.trans H0.fresh (weaken_ste hw rfl rfl)⟩
  induction C with
  | @last cs st e d s hl =>
    intro ι er dr h re H D Q
    unfold lastX at hl
    split at hl
    · rename_i x e1 d1 s1 hr
      refine WPs_mono ?_ cs (runL_sound (run_sound ok lb n) cs e d s _ hr ι er dr h re H D rfl)
      rintro x' er' dr' h' ⟨hx, ι', q1, q2, q3, q4⟩
      split at hl
      · split at hl
        · rename_i t sf hend
          simp only [Bool.and_eq_true] at hl
          obtain rfl : x' = .ret := hx
          refine contK_ret ?_ st
          have key := end_sound ok H0 (Q.trans H0.fresh q1) q2 q3 q4 hend
          unfold retK
          unfold finW at key ⊢
          refine ⟨key.1, ?_⟩
          have : ∀ (K K' : Value → Heap → Prop) (hk : ∀ v h, K v h → K' v h) (rs : List ResultVar) (acc : List Value) (h : Heap), resA P rs er' acc K h → resA P rs er' acc K' h := by
            intro K K' hk rs
            induction rs with
            | nil => intro acc h hh; rw [resA_end] at hh ⊢; exact hk _ _ hh
            | cons r rs ih =>
              intro acc h hh
              cases r with
              | tmp t => rw [resA_tmp] at hh ⊢; exact ih _ _ hh
              | cell a t =>
                rw [resA_cell] at hh ⊢
                exact loadW_mono (fun v h' hv => by rw [resK_eq] at hv ⊢; exact ih _ _ hv) hh
          refine this _ _ ?_ _ _ _ key.2
          intro v h' hp
          rw [eqV_sound hl.2.1] at hp
          exact ⟨sf, ble_iff.1 hl.1, nodupB_sound hl.2.2.1, newsOk_mem hl.2.2.2, hp⟩
        · cases hl
      · cases hl
    · cases hl
  | @run cs st e d s e2 d2 s2 k ks bs hs C ih =>
    intro ι er dr h re H D Q
    unfold segX at hs
    split at hs
    · rename_i x e1 d1 s1 hr
      simp only [Option.some.injEq, Prod.mk.injEq] at hs
      obtain ⟨rfl, rfl, rfl, rfl⟩ := hs
      rw [← List.take_append_drop k cs]
      refine WPs_append _ _ (WPs_mono ?_ _ (runL_sound (run_sound ok lb n) (cs.take k) e d s _ hr ι er dr h re H D rfl))
      rintro x er' dr' h' ⟨hx, ι', q1, q2, q3, q4⟩
      obtain rfl : x = .normal := hx
      obtain ⟨w1, w2, w3⟩ := weak ks bs q3 q2 (Q.trans H0.fresh q1)
      exact ih ι' er' dr' h' w1 w2 q4 w3
    · cases hs
  | @stop cs st e d s x e2 d2 s2 cs2 st2 ks bs hs hu C ih =>
    intro ι er dr h re H D Q
    unfold segX at hs
    split at hs
    · rename_i x1 e1 d1 s1 hr
      simp only [Option.some.injEq, Prod.mk.injEq] at hs
      obtain ⟨rfl, rfl, rfl, rfl⟩ := hs
      refine WPs_mono ?_ _ (runL_sound (run_sound ok lb n) cs e d s _ hr ι er dr h re H D rfl)
      rintro x' er' dr' h' ⟨hx, ι', q1, q2, q3, q4⟩
      have hx : x' = exR x1 := hx
      subst hx
      obtain ⟨w1, w2, w3⟩ := weak ks bs q3 q2 (Q.trans H0.fresh q1)
      exact unwind_sound hu (ih ι' er' dr' h' w1 w2 q4 w3)
    · cases hs
  | @open_ i b cs st e d s C ih =>
    intro ι er dr h re H D Q
    exact WPs_open (ih ι er dr h re H D Q)
  | @loop b cs st e d s k C ih =>
    intro ι er dr h re H D Q
    have := ih ι er dr h re H D Q
    unfold WPs
    refine RW_loop (k := contK P st _) (n := k + 1) ?_ (segs_WP b this)
    intro x er dr h hx hk
    cases x with
    | normal => exact absurd rfl hx
    | _ => exact hk
theorem ChR.op {p : Pr} {n : Nat} {m : Fm} {rs : List ResultVar} {ans : T} {news : List (Nat × VO)} {N i : Nat} {b : Code} {cs0 cs : List Code} {st : List Fr} {e : E} {d : List Nat} {s : S} (h : cs0 = .block i b :: cs) (C : ChR p n m rs ans news N (segs b) (.blk i cs :: st) e d s) : ChR p n m rs ans news N cs0 st e d s := by
  rw [h]; exact .open_ C
theorem ChR.lpo {p : Pr} {n : Nat} {m : Fm} {rs : List ResultVar} {ans : T} {news : List (Nat × VO)} {N : Nat} {b : Code} {cs0 cs : List Code} {st : List Fr} {e : E} {d : List Nat} {s : S} (k : Nat) (h : cs0 = .loop b :: cs) (C : ChR p n m rs ans news N (segs b) (.lp b k :: st) e d s) : ChR p n m rs ans news N cs0 st e d s := by
  rw [h]; exact .loop k C
noncomputable def bodyOf : List Code → Code
  | .block _ b :: _ => b
  | .loop b :: _ => b
  | _ => .skip
/-- A call's run, in pieces. -/
theorem ch_HC {P : Program} {p : Pr} {n : Nat} {g : FuncId} {fi : FI} {N : Nat} {x : Mr} (ok : Ok P p) (lb : LibOk P p) (hfi : p.fn g = some fi) (h1 : x.vs.length ≤ fi.nt) (h2 : fi.nt ≤ 1024)
    (C : ChR p n ⟨depthOf fi.nt, fi.nt⟩ fi.res x.ans x.news N (segs fi.body) [] (fillE ⟨depthOf fi.nt, fi.nt⟩ x.vs 0 (.leaf undefT) id) [] (memS N x.rows)) : HC P g N x := by
  intro ι us h hv H
  have hm := ok.fn g fi hfi
  unfold mkFI at hm
  split at hm
  · rename_i fn hf
    split at hm
    · rename_i c hb
      split at hm
      · rename_i hbod
        cases hm
        refine CallsH_of_WP hf hb hbod (segs_WP c ?_)
        have hsz : us.toArray.size = us.length := by simp
        rw [hsz, List.toList_toArray]
        exact chR_sound ok lb H C ι _ [] h (fill_frame hv h1 h2) H rfl (Ste.refl ..)
      · cases hm
    · cases hm
  · cases hm
/-! ### a function's run in pieces, some of them walked by hand -/
/-- A row of integers. -/
noncomputable def il : List Int → List T := List.rec (motive := fun _ => List T) [] (fun n _ ih => .int .i64 n :: ih)
section good
variable {P : Program} {p : Pr} {n : Nat} {m : Fm} {e e2 : E} {d d2 : List Nat} {s s2 : S} {h0 h : Heap} {er : Env} {dr : List Deferred}
/-- What the evaluator knows of a frame and a heap, of a run that began at h0. -/
def Good (P : Program) (m : Fm) (e : E) (d : List Nat) (s : S) (h0 : Heap) (er : Env) (dr : List Deferred) (h : Heap) : Prop := ∃ ι, RE ι m e er ∧ Sim P ι s h ∧ DL ι d dr ∧ Ste (fun _ => none) s0 h0 ι s h
theorem Good.ext (G : Good P m e d s h0 er dr h) : Ext h0 h := by
  obtain ⟨ι, _, _, _, q⟩ := G
  exact ⟨q.size, fun r hr => q.old r hr fun b x hx => by cases hx⟩
/-- A frame that begins, with arguments that lie in no block. -/
theorem Good.start {vs : List T} {us : List Value} {nt : Nat} (hv : VL (fun _ => none) vs us) (hl : vs.length ≤ nt) (hn : nt ≤ 1024) : Good P ⟨depthOf nt, nt⟩ (fillE ⟨depthOf nt, nt⟩ vs 0 (.leaf undefT) id) [] s0 h0 (us ++ List.replicate (nt - us.length) undef) [] h0 :=
  ⟨_, fill_frame hv hl hn, Sim.zero h0, rfl, Ste.refl ..⟩
/-- A slot that holds an integer, a truth value. -/
theorem Good.int (G : Good P m e d s h0 er dr h) {t : Nat} (ht : t < m.n) {k : IntKind} {z : Int} (hz : En.get (Pa.of m.dp t) e = .int k z) : er.getD t undef = .int k z := by
  obtain ⟨ι, re, _⟩ := G
  have := re.get t ht
  rw [hz] at this
  simpa only [VR] using this
theorem Good.bool (G : Good P m e d s h0 er dr h) {t : Nat} (ht : t < m.n) {b : Bool} (hz : En.get (Pa.of m.dp t) e = .bool b) : er.getD t undef = .bool b := by
  obtain ⟨ι, re, _⟩ := G
  have := re.get t ht
  rw [hz] at this
  simpa only [VR] using this
/-- A slot is written with a value that lies in no block. -/
theorem Good.put (G : Good P m e d s h0 er dr h) {q : Nat} {v : T} {u : Value} (hq : q < m.n) (hv : ∀ ι, VR ι v u) : Good P m (En.set (Pa.of m.dp q) v e) d s h0 (er.set q u) dr h := by
  obtain ⟨ι, re, r⟩ := G
  have hf := re.fit
  refine ⟨ι, ⟨by rw [List.length_set]; exact re.len, re.fit, fun i hi => ?_⟩, r⟩
  rw [En.get_set_of (by omega) (by omega)]
  by_cases hiq : i = q
  · subst hiq
    rw [if_pos rfl, List.getD_eq_getElem?_getD, List.getElem?_set, if_pos rfl, if_pos (by rw [re.len]; exact hi)]
    exact hv ι
  · rw [if_neg hiq, List.getD_eq_getElem?_getD, List.getElem?_set, if_neg (fun h => hiq h.symm), ← List.getD_eq_getElem?_getD]
    exact re.get i hi
/-- Less may be known. -/
theorem Good.weak {e' : E} (G : Good P m e d s h0 er dr h) (hw : ∀ i, i < m.n → En.get (Pa.of m.dp i) e' = En.get (Pa.of m.dp i) e ∨ En.get (Pa.of m.dp i) e' = .any) : Good P m e' d s h0 er dr h := by
  obtain ⟨ι, re, r⟩ := G
  refine ⟨ι, ⟨re.len, re.fit, fun i hi => ?_⟩, r⟩
  rcases hw i hi with h1 | h1
  · rw [h1]; exact re.get i hi
  · rw [h1]; simp [VR]
theorem good_seg (ok : Ok P p) (lb : LibOk P p) {cs : List Code} {k : Nat} {ks bs : List Nat} {K : Cont} (hs : seg p n m (cs.take k) ks bs e d s = some (e2, d2, s2)) (G : Good P m e d s h0 er dr h)
    (H : ∀ er' dr' h', Good P m e2 d2 s2 h0 er' dr' h' → WPs none P (cs.drop k) K er' dr' h') : WPs none P cs K er dr h := by
  obtain ⟨ι, re, Hs, D, Q⟩ := G
  unfold seg at hs
  split at hs
  · rename_i e1 d1 s1 hr
    simp only [Option.some.injEq, Prod.mk.injEq] at hs
    obtain ⟨rfl, rfl, rfl⟩ := hs
    rw [← List.take_append_drop k cs]
    refine WPs_append _ _ (WPs_mono ?_ _ (runL_sound (run_sound ok lb n) (cs.take k) e d s _ hr ι er dr h re Hs D rfl))
    rintro x er' dr' h' ⟨hx, ι', q1, q2, q3, q4⟩
    obtain rfl : x = .normal := hx
    have hw := keepV_at s1 bs (.leaf none) s1.nx s1.low fun b => .inr (by simp [S.at, En.get_leaf, ite_eq])
    have ra : RE ι' m (.leaf .any) er' := ⟨q3.len, q3.fit, fun i hi => by rw [En.get_leaf]; simp [VR]⟩
    exact H _ _ _ ⟨ι', keepFr_RE q3 ks _ ra, weaken_sim q2 hw rfl, q4, (Q.trans (Sim.zero (P := P) h0).fresh q1).trans (Sim.zero (P := P) h0).fresh (weaken_ste hw rfl rfl)⟩
  · cases hs
/-- Some slots are kept as they stand, not evaluated (they may hold variables). -/
noncomputable def keepQ (m : Fm) : List Nat → E → E → E
  | [], _, acc => acc
  | t :: ks, e, acc => ite (Nat.ble (Nat.succ t) m.n) (En.setK (Pa.of m.dp t) (seeE m e t) acc fun acc => keepQ m ks e acc) (keepQ m ks e acc)
theorem keepQ_RE {ι : Io} (re : RE ι m e er) : ∀ (ks : List Nat) (acc : E), RE ι m acc er → RE ι m (keepQ m ks e acc) er
  | [], acc, ra => ra
  | t :: ks, acc, ra => by
    unfold keepQ
    rw [ite_eq]
    split
    · rename_i ht
      have ht : t < m.n := ble_iff.1 ht
      rw [En.setK_eq]
      refine keepQ_RE re ks _ ⟨ra.len, ra.fit, fun i hi => ?_⟩
      have hf := ra.fit
      rw [En.get_set_of (by omega) (by omega)]
      split
      · rename_i hit
        subst hit
        exact seeE_VR re i
      · exact ra.get i hi
    · exact keepQ_RE re ks acc ra
noncomputable def segP (p : Pr) (n : Nat) (m : Fm) (cs : List Code) (ks qs bs : List Nat) (e : E) (d : List Nat) (s : S) : Option (E × List Nat × S) :=
  match runL (runC p n) m none cs e d s with
  | .ok ⟨.normal, e, d, s⟩ => some (keepQ m qs e (keepFr m ks e (.leaf .any)), d, ⟨keepV bs s (.leaf none), s.nx, s.low⟩)
  | _ => none
theorem good_segP (ok : Ok P p) (lb : LibOk P p) {cs : List Code} {k : Nat} {ks qs bs : List Nat} {K : Cont} (hs : segP p n m (cs.take k) ks qs bs e d s = some (e2, d2, s2)) (G : Good P m e d s h0 er dr h)
    (H : ∀ er' dr' h', Good P m e2 d2 s2 h0 er' dr' h' → WPs none P (cs.drop k) K er' dr' h') : WPs none P cs K er dr h := by
  obtain ⟨ι, re, Hs, D, Q⟩ := G
  unfold segP at hs
  split at hs
  · rename_i e1 d1 s1 hr
    simp only [Option.some.injEq, Prod.mk.injEq] at hs
    obtain ⟨rfl, rfl, rfl⟩ := hs
    rw [← List.take_append_drop k cs]
    refine WPs_append _ _ (WPs_mono ?_ _ (runL_sound (run_sound ok lb n) (cs.take k) e d s _ hr ι er dr h re Hs D rfl))
    rintro x er' dr' h' ⟨hx, ι', q1, q2, q3, q4⟩
    obtain rfl : x = .normal := hx
    have hw := keepV_at s1 bs (.leaf none) s1.nx s1.low fun b => .inr (by simp [S.at, En.get_leaf, ite_eq])
    have ra : RE ι' m (.leaf .any) er' := ⟨q3.len, q3.fit, fun i hi => by rw [En.get_leaf]; simp [VR]⟩
    exact H _ _ _ ⟨ι', keepQ_RE q3 qs _ (keepFr_RE q3 ks _ ra), weaken_sim q2 hw rfl, q4, (Q.trans (Sim.zero (P := P) h0).fresh q1).trans (Sim.zero (P := P) h0).fresh (weaken_ste hw rfl rfl)⟩
  · cases hs
theorem good_last (ok : Ok P p) (lb : LibOk P p) {cs : List Code} {rs : List ResultVar} (hl : lastB p n m rs cs e d s = true) (G : Good P m e d s h0 er dr h) : WPs none P cs (retK P rs (fun v h' => v = .bool true ∧ Ext h0 h')) er dr h := by
  obtain ⟨ι, re, Hs, D, Q⟩ := G
  exact chain_sound ok lb (.last hl) ι er dr h re Hs D Q
theorem good_chain (ok : Ok P p) (lb : LibOk P p) {cs : List Code} {rs : List ResultVar} (C : Chain p n m rs cs e d s) (G : Good P m e d s h0 er dr h) : WPs none P cs (retK P rs (fun v h' => v = .bool true ∧ Ext h0 h')) er dr h := by
  obtain ⟨ι, re, Hs, D, Q⟩ := G
  exact chain_sound ok lb C ι er dr h re Hs D Q
/-- A call, by what its body's statements do, one after another. -/
theorem good_call (ok : Ok P p) {f : FuncId} {fi : FI} (hfi : p.fn f = some fi) {us : List Value} {K : Value → Heap → Prop} (hu : us.length ≤ fi.nt) (H : WPs none P (segs fi.body) (retK P fi.res K) (us ++ List.replicate (fi.nt - us.length) undef) [] h) : CallsH P f us.toArray h K := by
  have hm := ok.fn f fi hfi
  unfold mkFI at hm
  split at hm
  · rename_i fn hf
    split at hm
    · rename_i c hb
      split at hm
      · rename_i hbod
        cases hm
        refine CallsH_of_WP hf hb hbod (segs_WP c ?_)
        have hsz : us.toArray.size = us.length := by simp
        rw [hsz, List.toList_toArray]
        exact H
      · cases hm
    · cases hm
  · cases hm
/-- A statement by hand: the operations of a plain region. -/
theorem WPs_region {i : Nat} {ops : List Oper} {cs : List Code} {K : Cont} (H : execR P ops ops (nxK (fun e d h => WPs none P cs K e d h) K) er dr h) : WPs none P (.region i ops.toArray false :: cs) K er dr h := by
  unfold WPs
  exact exec_sound _ _ _ _ _ (by rw [exec_region]; exact H)
theorem getD_setL {α : Type} (l : List α) (i j : Nat) (v d : α) : (l.set i v).getD j d = if i = j ∧ i < l.length then v else l.getD j d := by
  rw [List.getD_eq_getElem?_getD, List.getElem?_set, List.getD_eq_getElem?_getD]
  by_cases h1 : i = j
  · subst h1
    by_cases h2 : i < l.length
    · simp [h2]
    · simp [h2]
  · simp [h1]
theorem Good.len (G : Good P m e d s h0 er dr h) : er.length = m.n := by
  obtain ⟨ι, re, _⟩ := G
  exact re.len
theorem Good.putI (G : Good P m e d s h0 er dr h) {q : Nat} {k : IntKind} {z : Int} (hq : q < m.n) : Good P m (En.set (Pa.of m.dp q) (.int k z) e) d s h0 (er.set q (.int k z)) dr h := G.put hq fun ι => by simp only [VR]
/-- A slot is written with anything: nothing is known of it. -/
theorem Good.putA (G : Good P m e d s h0 er dr h) {q : Nat} {u : Value} (hq : q < m.n) : Good P m (En.set (Pa.of m.dp q) .any e) d s h0 (er.set q u) dr h := G.put hq fun ι => by simp only [VR]
end good
end Go.Run
