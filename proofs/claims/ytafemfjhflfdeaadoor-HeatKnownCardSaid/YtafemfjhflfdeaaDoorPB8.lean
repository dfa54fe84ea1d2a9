/- Texts joined by pack.py: lemmas for YtafemfjhflfdeaaDoorKnown. No condition. -/
import Derived.Test.YtafemfjhflfdeaaDoorPB7
import Derived.Lib.ConvBytes
import Derived.Laws.BytesString
import Derived.RangeFuncIn
import Derived.LoopNIn
import Derived.ProofKit
set_option linter.unusedSimpArgs false
set_option linter.unusedVariables false
set_option linter.defProp false
section
namespace Go.Proofs.YtafemfjhflfdeaaDoor
open Go Go.Proofs Go.Eng Go.Run Tab
set_option maxRecDepth 100000
set_option linter.unusedSimpArgs false
set_option linter.unusedVariables false
set_option maxHeartbeats 4000000
set_option linter.defProp false
def H9Fs109 := (And.intro (And.intro (And.intro (And.intro @agg141 (And.intro @agg143 @agg3)) (And.intro (And.intro @agg84 @agg9) (And.intro @by143 @fo141_0))) (And.intro (And.intro (And.intro @fo141_1 @fo143_0) (And.intro @fo143_1 @fps141_0)) (And.intro (And.intro @fps141_1 @fps143_0) (And.intro @fps143_1 @inf141)))) (And.intro (And.intro (And.intro @inf143 (And.intro @inf3 @inf84)) (And.intro (And.intro @inf9 @okf141) (And.intro @okf143 @sz141))) (And.intro (And.intro (And.intro @sz143 @sz3) (And.intro @sz84 @sz9)) (And.intro (And.intro @zero141 @zero143) (And.intro @zero84 @Tryd.underlying151)))))
theorem app151 {h : Eng.Heap} {er : Env} {ty : TypeId} {m0 : Nat} {x y : Operand} {a b : Option Addr} {len cap m c : Nat} {xs ys : List Wy} {K : Value → Eng.Heap → Prop} (hx : ev er x = .slice a len cap) (hy : ev er y = .slice b m c) (O : OwnV m0 h 143 2 a len cap (waysC xs)) (h0h : m0 ≤ h.size) (I : Row h b (waysC ys)) (hm : ys.length = m) (hb : len + m ≤ 1000)
    (H : ∀ a' cap' h', OwnV m0 h' 143 2 a' (len + m) cap' (waysC (xs ++ ys)) → App h h' a a' → K (.slice a' (len + m) cap') h') : opSem Tryd.prog (.call ⟨.builtin .append, #[x, y], #[151, 151]⟩) ty er h K :=
  append_valsT Tryd.underlying151 Tryd.underlying151 inf143 sz143 zero143 (by rfl) hx hy O h0h I (by rw [waysC_length, hm]) (fun u hu => by
    simp only [waysC, List.mem_flatMap, wyC] at hu
    obtain ⟨e, _, hu⟩ := hu
    simp at hu
    rcases hu with rfl | rfl <;> rfl) (by omega) (by rw [by143]; omega) (fun a' cap' h' O' A => H a' cap' h' (by rw [show waysC (xs ++ ys) = waysC xs ++ waysC ys by simp [waysC]]; exact O') A)
theorem OwnV.chg {h h' : Eng.Heap} {a : Option Addr} {el : TypeId} {s len cap m b : Nat} {vs : List Value} {ents : Array MapEntry} {c : Nat} (O : OwnV m h el s a len cap vs) (hb : h[b]? = some (.map ents c)) (x : Chg h h' b) : OwnV m h' el s a len cap vs := by
  refine O.keep fun p hp => x.old _ (O.lt hp).1 ?_
  rintro rfl
  rcases O.ok with ⟨h1, _⟩ | ⟨g, cur, h1, _, h3, _⟩
  · rw [h1] at hp; cases hp
  · rw [h1] at hp; cases hp; rw [h3] at hb; cases hb
theorem MV.ok.chg {m : MV} {h h' : Eng.Heap} {b : Nat} {ents : Array MapEntry} {c : Nat} (H : m.ok h) (hb : h[b]? = some (.map ents c)) (x : Chg h h' b) : m.ok h' := ⟨H.c.chg hb x, H.w.chg hb x, H.cl, H.wl⟩
theorem Oven.chg {m : MV} {h h' : Eng.Heap} {o b : Nat} {ents : Array MapEntry} {c : Nat} (H : Oven h o m) (hb : h[b]? = some (.map ents c)) (x : Chg h h' b) : Oven h' o m := x.get H (by rintro rfl; have H' := hb.symm.trans H; cases H')
theorem Chg.app {h0 h h' : Eng.Heap} {b : Nat} {a a' : Option Addr} {el : TypeId} {s len cap m : Nat} {vs : List Value} (y : Chg h0 h b) (A : App h h' a a') (O : OwnV m h el s a len cap vs) (hm : h0.size ≤ m) : Chg h0 h' b :=
  ⟨Nat.le_trans y.size A.size, fun c hc hne => (A.old c (Nat.lt_of_lt_of_le hc y.size) fun p hp => by have := (O.lt hp).2; omega).trans (y.old c hc hne)⟩
structure WS (m : MV) (b mb hs k : Nat) (s : OV.Sp) (h : Eng.Heap) (es : OV.Ents) (c : Nat) : Prop where
  t4 : h[hs]? = some (.cells #[.int .i64 (s.1 : Int), .int .i64 (s.2 : Int), .int .i64 ((k + 1 : Nat) : Int)] 141)
  t6 : h[hs + 1]? = some (.cells #[.int .i64 0, .string ByteArray.empty] 143)
  ov : Oven h b m
  ok : m.ok h
  mp : MapV stV h mb es c
theorem WS.ext {m : MV} {b mb hs k c : Nat} {s : OV.Sp} {h h' : Eng.Heap} {es : OV.Ents} (w : WS m b mb hs k s h es c) (x : Ext h h') : WS m b mb hs k s h' es c := ⟨x.get w.t4, x.get w.t6, x.get w.ov, w.ok.ext x, w.mp.ext x⟩
theorem WS.chg {m : MV} {b mb hs k c c' : Nat} {s : OV.Sp} {h h' : Eng.Heap} {es es' : OV.Ents} (w : WS m b mb hs k s h es c) (x : Chg h h' mb) (M : MapV stV h' mb es' c') : WS m b mb hs k s h' es' c' :=
  ⟨x.get w.t4 (by rintro rfl; have := w.mp.obj; rw [w.t4] at this; cases this), x.get w.t6 (by rintro rfl; have := w.mp.obj; rw [w.t6] at this; cases this), w.ov.chg w.mp.obj x, w.ok.chg w.mp.obj x, M⟩
def WaysQ (m : MV) (mb k : Nat) (s : OV.Sp) (es : OV.Ents) (op : List OV.Std) (h : Eng.Heap) (v : Value) (h' : Eng.Heap) : Prop :=
  (∃ x l, v = .tuple #[OV.wayV x l, .bool (m.ov.lw k s).isSome] ∧ ∀ y, m.ov.lw k s = some y → x = y) ∧ ∃ es' c', MapV stV h' mb es' c' ∧ m.ov.Ok es' op ∧ m.ov.Sub es es' ∧ ((m.ov.lw k s).isSome → m.ov.has es' (s, k)) ∧ Chg h h' mb
def castO (m : MV) (k : Nat) (s : OV.Sp) : Option Nat := if m.ov.can s then m.ov.lw k (m.ov.C s) else none
def waitO (m : MV) (k : Nat) (s : OV.Sp) : Option Nat := if m.ov.W s = s then none else m.ov.lw (k + 1) (m.ov.W s)
def castL (m : MV) (k : Nat) (s : OV.Sp) : List Wy := match castO m k s with | some x => [((x : Int), ⟨#[99]⟩)] | none => []
def waitL (m : MV) (k : Nat) (s : OV.Sp) : List Wy := match waitO m k s with | some x => [((x : Int) + 1, ⟨#[119]⟩)] | none => []
theorem lw_cw {m : MV} (gd : m.Good) {k : Nat} {s : OV.Sp} (hs : m.ov.In s) : m.ov.lw (k + 1) s = OV.better (castO m k s) ((waitO m k s).map (· + 1)) := by
  rw [OV.lw_succ gd.ok hs, castO, waitO]
  congr 1
  split <;> rfl
theorem first_cw {m : MV} {k : Nat} {s : OV.Sp} : m.ov.first k s = match castO m k s, (waitO m k s).map (· + 1) with | some x, some y => !decide (y < x) | some _, none => true | none, _ => false := by
  have h : (waitO m k s).map (· + 1) = if m.ov.W s = s then none else (m.ov.lw (k + 1) (m.ov.W s)).map (· + 1) := by
    rw [waitO]; split <;> rfl
  rw [h]
  unfold OV.first castO
  rfl
theorem best_cw {m : MV} (gd : m.Good) {k x : Nat} {s : OV.Sp} (hs : m.ov.In s) (hx : m.ov.lw (k + 1) s = some x) : bestW (castL m k s ++ waitL m k s) = ((x : Int), OV.ltr (m.ov.first k s)) := by
  rw [lw_cw gd hs] at hx
  rw [first_cw]
  unfold castL waitL
  cases hc : castO m k s with
  | none =>
    rw [hc] at hx
    cases hw : waitO m k s with
    | none => rw [hw] at hx; cases hx
    | some w =>
      rw [hw] at hx
      simp only [Option.map_some, OV.better, Option.some.injEq] at hx
      subst hx
      simp [bestW, OV.ltr]
  | some c =>
    rw [hc] at hx
    cases hw : waitO m k s with
    | none =>
      rw [hw] at hx
      simp only [Option.map_none, OV.better, Option.some.injEq] at hx
      subst hx
      simp [bestW, OV.ltr]
    | some w =>
      rw [hw] at hx
      simp only [Option.map_some, OV.better, Option.some.injEq] at hx
      by_cases hlt : w + 1 < c
      · have h2 : (w : Int) + 1 < (c : Int) := by omega
        rw [if_pos hlt] at hx
        subst hx
        simp [bestW, OV.ltr, hlt, h2]
      · have h2 : ¬ (w : Int) + 1 < (c : Int) := by omega
        rw [if_neg hlt] at hx
        subst hx
        simp [bestW, OV.ltr, hlt, h2]
theorem lw_none_cw {m : MV} (gd : m.Good) {k : Nat} {s : OV.Sp} (hs : m.ov.In s) : m.ov.lw (k + 1) s = none ↔ castO m k s = none ∧ waitO m k s = none := by
  rw [lw_cw gd hs]
  cases castO m k s <;> cases waitO m k s <;> simp [OV.better]
theorem lists_cw {m : MV} (gd : m.Good) {k : Nat} {s : OV.Sp} (hs : m.ov.In s) : (castL m k s ++ waitL m k s).length = 0 ↔ m.ov.lw (k + 1) s = none := by
  rw [lw_none_cw gd hs]
  unfold castL waitL
  cases castO m k s <;> cases waitO m k s <;> simp
theorem wayRow {h : Eng.Heap} {g : Nat} {x : Int} {l : ByteArray} (hb : h[g]? = some (.cells #[.int .i64 x, .string l] 143)) : Row h (some ⟨g, 0, none⟩) (waysC [(x, l)]) := Row.block (c := [.int .i64 x, .string l]) hb
theorem neSp {er : Env} {h : Eng.Heap} {ty yt : TypeId} {x y : Operand} {s t : OV.Sp} {K : Value → Eng.Heap → Prop} (hx : ev er x = .agg #[.int .i64 (s.1 : Int), .int .i64 (s.2 : Int)]) (hy : ev er y = .agg #[.int .i64 (t.1 : Int), .int .i64 (t.2 : Int)]) (H : K (.bool (!decide (s = t))) h) : opSem Tryd.prog (.binOp .neq 84 x y yt) ty er h K := by
  have hfl : ((Pt.pr.ty 84).getD ⟨0, 0, .any, .other, []⟩).fl = List.replicate 2 .i := by kernel_rfl
  have hd : decide (s = t) = decide ([(s.1 : Int), (s.2 : Int)] = [(t.1 : Int), (t.2 : Int)]) := by
    obtain ⟨a, b⟩ := s; obtain ⟨c, d⟩ := t
    refine decide_eq_decide.2 ⟨fun e => by cases e; rfl, fun e => ?_⟩
    simp only [List.cons.injEq, Int.natCast_inj, and_true] at e
    rw [Prod.mk.injEq]
    exact e
  rw [hd] at H
  refine eqAggW Pt.ok (ti := (Pt.pr.ty 84).getD ⟨0, 0, .any, .other, []⟩) (by kernel_rfl) (a := .agg ([(s.1 : Int), (s.2 : Int)].map (T.int .i64))) (b := .agg ([(t.1 : Int), (t.2 : Int)].map (T.int .i64))) (r := decide ([(s.1 : Int), (s.2 : Int)] = [(t.1 : Int), (t.2 : Int)])) ?_ ?_ ?_ (.inr rfl) hx hy (by simpa using H)
  · simp only [VR]; exact ⟨_, rfl, by simpa [Eng.ints] using vl_ints [(s.1 : Int), (s.2 : Int)]⟩
  · simp only [VR]; exact ⟨_, rfl, by simpa [Eng.ints] using vl_ints [(t.1 : Int), (t.2 : Int)]⟩
  · have := beqF_ints [(s.1 : Int), (s.2 : Int)] [(t.1 : Int), (t.2 : Int)] rfl
    unfold eqAgg
    rw [hfl]
    simpa [List.replicate_succ] using this
theorem lw_le {m : MV} (gd : m.Good) (hn : m.casts.length ≤ 16) {k : Nat} {s : OV.Sp} {x : Nat} (hs : m.ov.In s) (hx : m.ov.lw k s = some x) : x ≤ k * 32 := by
  have key := OV.pl_rec gd.ok (P := fun k s x => match k with | 0 => x = 0 | k + 1 => x ≤ k * 32 + (s.1 + s.2)) (fun s _ => rfl) (by
    intro k s x h _ _ _ _ ih
    have hc := h.c gd.ok
    have h1 : (m.ov.C s).1 < m.casts.length := hc.1
    have h2 : (m.ov.C s).2 < m.casts.length := hc.2
    cases k with
    | zero => simp only at ih ⊢; omega
    | succ k => simp only at ih ⊢; omega) (by
    intro k s x h hne _ _ _ ih
    have := OV.W_lt gd.ok h hne
    simp only at ih ⊢
    omega) k s x hs hx
  have h1 : s.1 < m.casts.length := hs.1
  have h2 : s.2 < m.casts.length := hs.2
  cases k with
  | zero => simp only at key; omega
  | succ k => simp only at key; omega
theorem ways109 (m : MV) (gd : m.Good) (hn16 : m.casts.length ≤ 16) (b mb : Nat) : ∀ (k : Nat), k ≤ 40 → ∀ (s : OV.Sp) (es : OV.Ents) (c0 : Nat) (op : List OV.Std) (h : Eng.Heap), m.ov.In s → m.ok h → Oven h b m → MapV stV h mb es c0 → m.ov.Ok es op → (∀ a ∈ op, OV.Lt (s, k) a) →
    CallsH Tryd.prog 109 #[.pointer (some ⟨b, 0, none⟩), stV (s, k), .map (some mb)] h (WaysQ m mb k s es op h) := by
  intro k
  induction k with
  | zero =>
    intro _ s es c0 op h hs hm ho M hO hlt
    have q1 := pn1 (h := h) (o := .cells #[.int .i64 (s.1 : Int), .int .i64 (s.2 : Int), .int .i64 ((0 : Nat) : Int)] 141) (o' := .cells #[.int .i64 0, .string ByteArray.empty] 143)
    have q0 := pn0 (h := h) (o := .cells #[.int .i64 (s.1 : Int), .int .i64 (s.2 : Int), .int .i64 ((0 : Nat) : Int)] 141) (o' := .cells #[.int .i64 0, .string ByteArray.empty] 143)
    have x0 : Ext h ((h.push (.cells #[.int .i64 (s.1 : Int), .int .i64 (s.2 : Int), .int .i64 ((0 : Nat) : Int)] 141)).push (.cells #[.int .i64 0, .string ByteArray.empty] 143)) := ((Ext.refl h).push _).push _
    have z0 : ((0 : Nat) : Int) = 0 := rfl
    unfold stV
    (refine CallsH_of_exec Tryd.func109 rfl bod109 ?_; simp only [Tryd.ntmps109, Tryd.results109, coreS, stK_some, splice, Value.cells, Value.oneCell', Nat.reduceAdd, Nat.reduceSub, Nat.reduceMul, Nat.reduceLeDiff, Int.reduceEq, Nat.reduceEqDiff, H9Fs109])
    simp only [z0] at q0 q1 x0
    simp only [z0, q0, q1, decide_true, splice, coreS, Value.cells, Value.oneCell', Nat.reduceAdd, Nat.reduceSub, Nat.reduceMul, Nat.reduceLeDiff, Int.reduceEq, Nat.reduceEqDiff, H9Fs109]
    have g2 := upd_same (h := (h.push (.cells #[.int .i64 (s.1 : Int), .int .i64 (s.2 : Int), .int .i64 0] 141)).push (.cells #[.int .i64 0, .string ByteArray.empty] 143)) (b := h.size + 1) (c := [.int .i64 0, .string ByteArray.empty]) (ct := 143) (by simp)
    simp only [g2, splice, coreS, Value.cells, Value.oneCell', Nat.reduceAdd, Nat.reduceSub, Nat.reduceMul, Nat.reduceLeDiff, Int.reduceEq, Nat.reduceEqDiff, H9Fs109]
    have x2 := (Upd.updH (h := (h.push (.cells #[.int .i64 (s.1 : Int), .int .i64 (s.2 : Int), .int .i64 0] 141)).push (.cells #[.int .i64 0, .string ByteArray.empty] 143)) (b := h.size + 1) (c := [.int .i64 0, .string ByteArray.empty]) (ct := 143)).ext x0 (by omega)
    exact ⟨⟨0, ByteArray.empty, rfl, fun y hy => by cases hy; rfl⟩, es, c0, M.ext x2, hO, OV.Sub.refl es, fun _ => .inl rfl, Chg.of_ext x2 mb⟩
  | succ k ihk =>
    intro hk
    have key : ∀ (n : Nat) (s : OV.Sp), s.1 + s.2 = n → ∀ (es : OV.Ents) (c0 : Nat) (op : List OV.Std) (h : Eng.Heap), m.ov.In s → m.ok h → Oven h b m → MapV stV h mb es c0 → m.ov.Ok es op → (∀ a ∈ op, OV.Lt (s, k + 1) a) →
        CallsH Tryd.prog 109 #[.pointer (some ⟨b, 0, none⟩), stV (s, k + 1), .map (some mb)] h (WaysQ m mb (k + 1) s es op h) := by
      intro n
      induction n using Nat.strongRecOn with
      | ind n ihn =>
        intro s hsn es c0 op h hs hm ho M hO hlt
        have q1 := pn1 (h := h) (o := .cells #[.int .i64 (s.1 : Int), .int .i64 (s.2 : Int), .int .i64 ((k + 1 : Nat) : Int)] 141) (o' := .cells #[.int .i64 0, .string ByteArray.empty] 143)
        have q0 := pn0 (h := h) (o := .cells #[.int .i64 (s.1 : Int), .int .i64 (s.2 : Int), .int .i64 ((k + 1 : Nat) : Int)] 141) (o' := .cells #[.int .i64 0, .string ByteArray.empty] 143)
        have x0 : Ext h ((h.push (.cells #[.int .i64 (s.1 : Int), .int .i64 (s.2 : Int), .int .i64 ((k + 1 : Nat) : Int)] 141)).push (.cells #[.int .i64 0, .string ByteArray.empty] 143)) := ((Ext.refl h).push _).push _
        have w0 : WS m b mb h.size k s _ es c0 := ⟨q0, q1, x0.get ho, hm.ext x0, M.ext x0⟩
        have hk0 : ¬ ((k + 1 : Nat) : Int) = 0 := by omega
        unfold stV
        (refine CallsH_of_exec Tryd.func109 rfl bod109 ?_; simp only [Tryd.ntmps109, Tryd.results109, coreS, stK_some, splice, Value.cells, Value.oneCell', Nat.reduceAdd, Nat.reduceSub, Nat.reduceMul, Nat.reduceLeDiff, Int.reduceEq, Nat.reduceEqDiff, H9Fs109])
        simp only [hk0, decide_false, q0, coreS, Value.cells, Value.oneCell', Nat.reduceAdd, Nat.reduceSub, Nat.reduceMul, Nat.reduceLeDiff, Int.reduceEq, Nat.reduceEqDiff, H9Fs109]
        refine map_getT Tryd.underlying139 zero143 keysS w0.mp (a := (s, k + 1)) (ok := true) (by rfl) (by rfl) ?_
        have r2 : (((h.push (.cells #[.int .i64 (s.1 : Int), .int .i64 (s.2 : Int), .int .i64 ((k + 1 : Nat) : Int)] 141)).push (.cells #[.int .i64 0, .string ByteArray.empty] 143)).push (.cells #[.int .i64 0, .string ByteArray.empty] 143))[h.size + 1 + 1]? = some (.cells #[.int .i64 0, .string ByteArray.empty] 143) := by rw [Array.getElem?_push, if_pos (by simp)]
        have zlt : ∀ l : ByteArray, (decide (l = (⟨#[]⟩ : ByteArray))) = decide (l = ByteArray.empty) := fun l => rfl
        cases hg : getA (s, k + 1) es with
        | some v =>
          obtain ⟨xv, lv, rfl, hxl⟩ : ∃ (x : Nat) (l : ByteArray), v = OV.wayV x l ∧ ((m.ov.lw (k + 1) s = some x ∧ l ≠ ByteArray.empty ∧ m.ov.has es (s, k + 1)) ∨ (m.ov.lw (k + 1) s = none ∧ l = ByteArray.empty)) := by
            rcases hO.2 _ _ hg with ⟨h1, h2⟩ | ⟨h1, h2⟩
            · cases hx : m.ov.lw (k + 1) s with
              | none => rw [OV.right_none hx] at h1; cases h1
              | some x =>
                have h3 := OV.right_some hx
                rw [h3] at h1
                cases h1
                refine ⟨x, _, rfl, .inl ⟨rfl, fun e => ?_, .inr ⟨_, h3, hg⟩⟩⟩
                have h4 := congrArg ByteArray.size e
                cases hb : m.ov.first k s <;> (rw [hb] at h4; exact absurd h4 (by decide))
            · have hn : m.ov.lw (k + 1) s = none := by
                rcases h2 with h2 | h2
                · cases hx : m.ov.lw (k + 1) s with
                  | none => rfl
                  | some x => rw [OV.right_some hx] at h2; cases h2
                · exact absurd rfl (hlt _ h2).ne
              exact ⟨0, _, h1, .inr ⟨hn, rfl⟩⟩
          simp only [if_true, Option.getD_some, Option.isSome_some, OV.wayV, splice, coreS, Value.cells, Value.oneCell', Nat.reduceAdd, Nat.reduceSub, Nat.reduceMul, Nat.reduceLeDiff, Int.reduceEq, Nat.reduceEqDiff, H9Fs109]
          refine stK_abs (c := [.int .i64 0, .string ByteArray.empty]) r2 (by simp) fun h2 g2 u2 => ?_
          simp only [splice] at g2
          have w2 : WS m b mb h.size k s h2 es c0 := w0.ext (u2.ext ((Ext.refl _).push _) (by simp))
          have y2 : Chg h h2 mb := .of_ext (u2.ext (x0.push _) (by omega)) mb
          simp only [coreS, Value.cells, Value.oneCell', Nat.reduceAdd, Nat.reduceSub, Nat.reduceMul, Nat.reduceLeDiff, Int.reduceEq, Nat.reduceEqDiff, H9Fs109]
          refine WP_tree (by kernel_rfl) sta_eq (.quiet 0 (.pure 1 (.fork2 2 4 true false (.pure 3 (.one 4 (.quiet 5 (.fin)))) (.quiet 2 (.quiet 3 (.quiet 5 (.fin))))))) (by kernel_rfl) rfl (by kernel_rfl) ?_
          obtain ⟨lb, hlb, hcase⟩ : ∃ lb : Bool, (!decide (lv = (⟨#[]⟩ : ByteArray))) = lb ∧ lb = (m.ov.lw (k + 1) s).isSome ∧ (∀ y, m.ov.lw (k + 1) s = some y → xv = y) ∧ ((m.ov.lw (k + 1) s).isSome → m.ov.has es (s, k + 1)) := by
            refine ⟨_, rfl, ?_⟩
            rcases hxl with ⟨hx, hl, hhas⟩ | ⟨hx, rfl⟩
            · refine ⟨?_, fun y hy => by rw [hx] at hy; exact Option.some.inj hy, fun _ => hhas⟩
              rw [hx]
              have : ¬ lv = (⟨#[]⟩ : ByteArray) := hl
              simp [this]
            · refine ⟨?_, fun y hy => (by rw [hx] at hy; cases hy), fun hh => (by rw [hx] at hh; cases hh)⟩
              rw [hx]; rfl
          obtain ⟨hb1, hb2, hb3⟩ := hcase
          have fin : ∀ {h9 : Eng.Heap}, Upd h2 h9 (h.size + 1) → WaysQ m mb (k + 1) s es op h (.tuple #[.agg #[.int .i64 (xv : Int), .string lv], .bool lb]) h9 := by
            intro h9 u9
            have x9 := u9.ext (u2.ext (x0.push _) (by omega)) (by omega)
            exact ⟨⟨xv, lv, by rw [hb1]; rfl, hb2⟩, es, c0, M.ext x9, hO, OV.Sub.refl es, hb3, .of_ext x9 mb⟩
          simp only [g2, splice, coreS, Value.cells, Value.oneCell', Nat.reduceAdd, Nat.reduceSub, Nat.reduceMul, Nat.reduceLeDiff, Int.reduceEq, Nat.reduceEqDiff, drawS, treeS, H9Fs109]
          refine execT_fork2E ?_ ?_
          · simp only [g2, splice, coreS, Value.cells, Value.oneCell', Nat.reduceAdd, Nat.reduceSub, Nat.reduceMul, Nat.reduceLeDiff, Int.reduceEq, Nat.reduceEqDiff, drawS, treeS, H9Fs109]
            refine ⟨by first | (intro _; rfl) | rfl | trivial, ?_⟩
            try simp only [coreS, Value.cells, Value.oneCell', Nat.reduceAdd, Nat.reduceSub, Nat.reduceMul, Nat.reduceLeDiff, Int.reduceEq, Nat.reduceEqDiff, drawS, treeS, H9Fs109]
            refine execT_oneE ?_
            simp only [w2.t6, splice, coreS, Value.cells, Value.oneCell', Nat.reduceAdd, Nat.reduceSub, Nat.reduceMul, Nat.reduceLeDiff, Int.reduceEq, Nat.reduceEqDiff, drawS, treeS, H9Fs109]
            refine stK_abs w2.t6 (by simp) fun h9 g9 u9 => ?_
            simp only [splice] at g9
            try simp only [coreS, Value.cells, Value.oneCell', Nat.reduceAdd, Nat.reduceSub, Nat.reduceMul, Nat.reduceLeDiff, Int.reduceEq, Nat.reduceEqDiff, drawS, treeS, H9Fs109]
            refine execT_finE ?_
            simp only [g9, splice, hlb, coreS, Value.cells, Value.oneCell', Nat.reduceAdd, Nat.reduceSub, Nat.reduceMul, Nat.reduceLeDiff, Int.reduceEq, Nat.reduceEqDiff, H9Fs109]
            exact fin u9
          · simp only [w2.t6, splice, coreS, Value.cells, Value.oneCell', Nat.reduceAdd, Nat.reduceSub, Nat.reduceMul, Nat.reduceLeDiff, Int.reduceEq, Nat.reduceEqDiff, drawS, treeS, H9Fs109]
            refine stK_abs w2.t6 (by simp) fun h9 g9 u9 => ?_
            simp only [splice] at g9
            first | refine ⟨by first | (intro hh; cases hh) | trivial, ?_⟩ | skip
            have g2' := u9.get g2 (by omega)
            simp only [g2', splice, coreS, Value.cells, Value.oneCell', Nat.reduceAdd, Nat.reduceSub, Nat.reduceMul, Nat.reduceLeDiff, Int.reduceEq, Nat.reduceEqDiff, drawS, treeS, H9Fs109]
            refine execT_finE ?_
            simp only [g9, splice, hlb, coreS, Value.cells, Value.oneCell', Nat.reduceAdd, Nat.reduceSub, Nat.reduceMul, Nat.reduceLeDiff, Int.reduceEq, Nat.reduceEqDiff, H9Fs109]
            exact fin u9
        | none =>
          simp only [if_true, Option.getD_none, Option.isSome_none, splice, coreS, Value.cells, Value.oneCell', Nat.reduceAdd, Nat.reduceSub, Nat.reduceMul, Nat.reduceLeDiff, Int.reduceEq, Nat.reduceEqDiff, H9Fs109]
          refine stK_abs (c := [.int .i64 0, .string ByteArray.empty]) r2 (by simp) fun h2 g2 u2 => ?_
          have w2 : WS m b mb h.size k s h2 es c0 := w0.ext (u2.ext ((Ext.refl _).push _) (by simp))
          have y2 : Chg h h2 mb := .of_ext (u2.ext (x0.push _) (by omega)) mb
          simp only [w2.t4, coreS, Value.cells, Value.oneCell', Nat.reduceAdd, Nat.reduceSub, Nat.reduceMul, Nat.reduceLeDiff, Int.reduceEq, Nat.reduceEqDiff, H9Fs109]
          refine map_putT Tryd.underlying139 keysS w2.mp (a := (s, k + 1)) (v := OV.zw) (by rfl) (by rfl) (by rfl) fun h3 M3 u3 => ?_
          obtain ⟨hO3, hs3⟩ := hO.begin hg c0
          have w3 := w2.chg ((Chg.refl h2 mb).upd u3) M3
          have y3 := y2.upd u3
          simp only [coreS, Value.cells, Value.oneCell', Nat.reduceAdd, Nat.reduceSub, Nat.reduceMul, Nat.reduceLeDiff, Int.reduceEq, Nat.reduceEqDiff, H9Fs109]
          simp only [w3.t4, coreS, Value.cells, Value.oneCell', Nat.reduceAdd, Nat.reduceSub, Nat.reduceMul, Nat.reduceLeDiff, Int.reduceEq, Nat.reduceEqDiff, H9Fs109]
          refine CallsH.mono (possible81 m b s h3 gd w3.ov) ?_
          rintro v h4 ⟨rfl, x4⟩
          have w4 := w3.ext x4
          have y4 := y3.ext x4
          simp only [coreS, Value.cells, Value.oneCell', Nat.reduceAdd, Nat.reduceSub, Nat.reduceMul, Nat.reduceLeDiff, Int.reduceEq, Nat.reduceEqDiff, H9Fs109]
          have hk1 : ((k + 1 : Nat) : Int) - 1 = (k : Int) := by omega
          have hltC : ∀ a ∈ (s, k + 1) :: op, OV.Lt (m.ov.C s, k) a := fun a ha => by
            rcases List.mem_cons.1 ha with rfl | ha
            · exact OV.lt_C s k
            · exact (OV.lt_C s k).trans (hlt a ha)
          refine cd_cut [10, 11, 12, 37, 38, 39, 40, 41, 42, 43, 44, 45, 46, 47, 48, 49, 50, 51, 52, 53, 54, 55, 56, 57, 58] (fun g h5 => ∃ es1 c1 a n c, g 10 = .slice a n c ∧ OwnV h4.size h5 143 2 a n c (waysC (castL m k s)) ∧ n = (castL m k s).length ∧ WS m b mb h.size k s h5 es1 c1 ∧ m.ov.Ok es1 ((s, k + 1) :: op) ∧ m.ov.Sub es es1 ∧ Chg h h5 mb ∧ h4.size ≤ h5.size ∧ ((castO m k s).isSome → m.ov.has es1 (m.ov.C s, k))) ?_ ?_
          · cases hcn : m.ov.can s with
            | false =>
              have hcl : castL m k s = [] := by rw [castL, castO, if_neg (by rw [hcn]; simp)]
              simp only [coreS, Value.cells, Value.oneCell', Nat.reduceAdd, Nat.reduceSub, Nat.reduceMul, Nat.reduceLeDiff, Int.reduceEq, Nat.reduceEqDiff, H9Fs109]
              exact midK_mk (by kernel_rfl) ⟨_, _, none, 0, 0, rfl, by rw [hcl]; exact OwnV.nil _ _ _ _, by rw [hcl]; rfl, w4, hO3, hs3, y4, Nat.le_refl _, fun hh => by rw [castO, if_neg (by rw [hcn]; simp)] at hh; cases hh⟩
            | true =>
              simp only [coreS, Value.cells, Value.oneCell', Nat.reduceAdd, Nat.reduceSub, Nat.reduceMul, Nat.reduceLeDiff, Int.reduceEq, Nat.reduceEqDiff, H9Fs109]
              refine WP_tree (by kernel_rfl) sta_ext (.quiet 0 (.quiet 1 (.quiet 2 (.quiet 3 (.quiet 4 (.quiet 5 (.quiet 6 (.quiet 7 (.quiet 8 (.quiet 9 (.fork2 10 14 false true (.quiet 11 (.quiet 12 (.pure 13 (.keep 14 (.one 15 (.quiet 16 (.fin))))))) (.one 10 (.quiet 11 (.quiet 12 (.pure 13 (.one 15 (.quiet 16 (.fin)))))))))))))))))) (by kernel_rfl) rfl (by kernel_rfl) ?_
              simp only [w4.t4, coreS, Value.cells, Value.oneCell', Nat.reduceAdd, Nat.reduceSub, Nat.reduceMul, Nat.reduceLeDiff, Int.reduceEq, Nat.reduceEqDiff, drawS, treeS, H9Fs109]
              refine cQ_ext _ (fun h' x' => CallsH.mono (cast83 m b s h' gd (w4.ok.ext x') (x'.get w4.ov) hs) fun v h'' q => ⟨q.1, q.2⟩) ?_
              simp only [w4.t4, hk1, splice, coreS, Value.cells, Value.oneCell', Nat.reduceAdd, Nat.reduceSub, Nat.reduceMul, Nat.reduceLeDiff, Int.reduceEq, Nat.reduceEqDiff, drawS, treeS, H9Fs109]
              refine ⟨by rw [inK_i64]; omega, ?_⟩
              refine execT_fork2 fun h5 x5 => ⟨?_, ?_⟩
              · have w5 := w4.ext x5
                simp only [coreS, Value.cells, Value.oneCell', Nat.reduceAdd, Nat.reduceSub, Nat.reduceMul, Nat.reduceLeDiff, Int.reduceEq, Nat.reduceEqDiff, drawS, treeS, H9Fs109]
                refine CallsH.mono (ihk (by omega) (m.ov.C s) _ _ ((s, k + 1) :: op) h5 (hs.c gd.ok) w5.ok w5.ov w5.mp hO3 hltC) ?_
                rintro v h6 ⟨⟨xv, lv, rfl, hx6⟩, es6, c6, M6, hO6, hs6, hh6, ch6⟩
                have w6 := w5.chg ch6 M6
                have y6 := (y4.ext x5).trans ch6
                try refine ⟨fun hh => absurd hh (by decide), ?_⟩
                simp only [OV.wayV, coreS, Value.cells, Value.oneCell', Nat.reduceAdd, Nat.reduceSub, Nat.reduceMul, Nat.reduceLeDiff, Int.reduceEq, Nat.reduceEqDiff, drawS, treeS, H9Fs109]
                refine execT_keep fun h7 x7 => ?_
                simp only [coreS, Value.cells, Value.oneCell', Nat.reduceAdd, Nat.reduceSub, Nat.reduceMul, Nat.reduceLeDiff, Int.reduceEq, Nat.reduceEqDiff, drawS, treeS, H9Fs109]
                refine ⟨(Ext.refl h7).push _, ?_⟩
                refine execT_one fun h9 x9 => ?_
                have t9 := x9.get (push_new (h := h7))
                simp only [t9, coreS, Value.cells, Value.oneCell', Nat.reduceAdd, Nat.reduceSub, Nat.reduceMul, Nat.reduceLeDiff, Int.reduceEq, Nat.reduceEqDiff, drawS, treeS, H9Fs109]
                refine stK_abs t9 (by simp) fun h12 g12 u12 => ?_
                simp only [splice] at g12
                have X79 : Ext h7 h12 := u12.ext x9.of_push (Nat.le_refl _)
                try simp only [coreS, Value.cells, Value.oneCell', Nat.reduceAdd, Nat.reduceSub, Nat.reduceMul, Nat.reduceLeDiff, Int.reduceEq, Nat.reduceEqDiff, drawS, treeS, H9Fs109]
                refine execT_fin fun h13 XF => ?_
                have WF := ((w6.ext x7).ext X79).ext XF
                have YF := ((y6.ext x7).ext X79).ext XF
                have ZS : h5.size ≤ h13.size := by
                  have z1 := ch6.size
                  have z2 := x7.size
                  have z3 := X79.size
                  have z4 := XF.size
                  omega
                have hcells : ∀ {hh : Eng.Heap}, Ext h12 hh → hh[h7.size]? = some (.cells #[.int .i64 (xv : Int), .string lv] 143) := fun y => y.get g12
                cases hlw : m.ov.lw k (m.ov.C s) with
                | none =>
                  have hcl : castL m k s = [] := by rw [castL, castO, if_pos hcn, hlw]
                  simp only [hlw, Option.isSome_none, coreS, Value.cells, Value.oneCell', Nat.reduceAdd, Nat.reduceSub, Nat.reduceMul, Nat.reduceLeDiff, Int.reduceEq, Nat.reduceEqDiff, H9Fs109]
                  refine midK_mk (by kernel_rfl) ⟨es6, c6, none, 0, 0, rfl, by rw [hcl]; exact OwnV.nil _ _ _ _, by rw [hcl]; rfl, WF, hO6, hs3.trans hs6, YF, ?_, fun hh => by rw [castO, if_pos hcn, hlw] at hh; cases hh⟩
                  exact Nat.le_trans x5.size ZS
                | some xc =>
                  have hcl : castL m k s = [((xc : Int), ⟨#[99]⟩)] := by rw [castL, castO, if_pos hcn, hlw]
                  have hxv := hx6 xc hlw
                  subst hxv
                  simp only [hlw, Option.isSome_some, hcells XF, splice, coreS, Value.cells, Value.oneCell', Nat.reduceAdd, Nat.reduceSub, Nat.reduceMul, Nat.reduceLeDiff, Int.reduceEq, Nat.reduceEqDiff, H9Fs109]
                  refine ⟨by decide, ?_⟩
                  refine app151 (h := h13.push (.cells #[.int .i64 (xv : Int), .string ⟨#[99]⟩] 143)) (xs := []) (ys := [((xv : Int), ⟨#[99]⟩)]) (m0 := h13.size) (len := 0) (m := 1) (by rfl) (by rfl) (OwnV.nil _ _ _ _) (by rw [Array.size_push]; omega) (wayRow push_new) rfl (by decide) fun a' cap' h14 O14 A14 => ?_
                  have X14 := A14.extV (OwnV.nil h13.size _ 143 2) ((Ext.refl h13).push (.cells #[.int .i64 (xv : Int), .string ⟨#[99]⟩] 143)) (Nat.le_refl _)
                  simp only [coreS, Value.cells, Value.oneCell', Nat.reduceAdd, Nat.reduceSub, Nat.reduceMul, Nat.reduceLeDiff, Int.reduceEq, Nat.reduceEqDiff, H9Fs109]
                  refine midK_mk (by kernel_rfl) ⟨es6, c6, a', 0 + 1, cap', rfl, by rw [hcl]; exact O14.mono (Nat.le_trans x5.size ZS), by rw [hcl]; rfl, WF.ext X14, hO6, hs3.trans hs6, YF.ext X14, ?_, fun _ => hh6 (by rw [hlw]; rfl)⟩
                  exact Nat.le_trans (Nat.le_trans x5.size ZS) X14.size
              · have w5 := w4.ext x5
                simp only [coreS, Value.cells, Value.oneCell', Nat.reduceAdd, Nat.reduceSub, Nat.reduceMul, Nat.reduceLeDiff, Int.reduceEq, Nat.reduceEqDiff, drawS, treeS, H9Fs109]
                refine ⟨(Ext.refl h5).push _, ?_⟩
                refine execT_one fun h6 x6 => ?_
                have w6' := w5.ext x6.of_push
                simp only [coreS, Value.cells, Value.oneCell', Nat.reduceAdd, Nat.reduceSub, Nat.reduceMul, Nat.reduceLeDiff, Int.reduceEq, Nat.reduceEqDiff, drawS, treeS, H9Fs109]
                refine CallsH.mono (ihk (by omega) (m.ov.C s) _ _ ((s, k + 1) :: op) h6 (hs.c gd.ok) w6'.ok w6'.ov w6'.mp hO3 hltC) ?_
                rintro v h7 ⟨⟨xv, lv, rfl, hx6⟩, es6, c6, M6, hO6, hs6, hh6, ch6⟩
                have w7 := w6'.chg ch6 M6
                have y7 := (y4.ext (x5.trans x6.of_push)).trans ch6
                simp only [OV.wayV, coreS, Value.cells, Value.oneCell', Nat.reduceAdd, Nat.reduceSub, Nat.reduceMul, Nat.reduceLeDiff, Int.reduceEq, Nat.reduceEqDiff, drawS, treeS, H9Fs109]
                refine execT_one fun h9 x9 => ?_
                have t7 := ch6.get (x6.get (push_new (h := h5) (o := .cells #[.int .i64 0, .string ByteArray.empty] 143))) (by
                  intro e
                  have h1 := w6'.mp.obj
                  rw [← e, x6.get (push_new (h := h5))] at h1
                  cases h1)
                have t9 := x9.get t7
                simp only [t9, coreS, Value.cells, Value.oneCell', Nat.reduceAdd, Nat.reduceSub, Nat.reduceMul, Nat.reduceLeDiff, Int.reduceEq, Nat.reduceEqDiff, drawS, treeS, H9Fs109]
                refine stK_abs t9 (by simp) fun h12 g12 u12 => ?_
                simp only [splice] at g12
                try simp only [coreS, Value.cells, Value.oneCell', Nat.reduceAdd, Nat.reduceSub, Nat.reduceMul, Nat.reduceLeDiff, Int.reduceEq, Nat.reduceEqDiff, drawS, treeS, H9Fs109]
                refine execT_fin fun h13 XF => ?_
                have hmb : mb < h5.size := lt_of_get w5.mp.obj
                have YF : Chg h h13 mb := ((y7.ext x9).upd_new u12 (by have := lt_of_get w5.t6; omega)).ext XF
                have WF : WS m b mb h.size k s h13 es6 c6 := by
                  have w9 := w7.ext x9
                  have n1 := lt_of_get w5.t6
                  have n2 := lt_of_get w5.ov
                  exact ⟨XF.get (u12.get w9.t4 (by omega)), XF.get (u12.get w9.t6 (by omega)), ho.chg M.obj YF, hm.chg M.obj YF, (w9.mp.keep (u12.old _ (by omega))).ext XF⟩
                have ZS : h5.size ≤ h13.size := by
                  have z0 := x6.size
                  have z1 := ch6.size
                  have z2 := x9.size
                  have z3 := u12.size
                  have z4 := XF.size
                  simp only [push_size] at z0
                  omega
                have hcells : ∀ {hh : Eng.Heap}, Ext h12 hh → hh[h5.size]? = some (.cells #[.int .i64 (xv : Int), .string lv] 143) := fun y => y.get g12
                cases hlw : m.ov.lw k (m.ov.C s) with
                | none =>
                  have hcl : castL m k s = [] := by rw [castL, castO, if_pos hcn, hlw]
                  simp only [hlw, Option.isSome_none, coreS, Value.cells, Value.oneCell', Nat.reduceAdd, Nat.reduceSub, Nat.reduceMul, Nat.reduceLeDiff, Int.reduceEq, Nat.reduceEqDiff, H9Fs109]
                  refine midK_mk (by kernel_rfl) ⟨es6, c6, none, 0, 0, rfl, by rw [hcl]; exact OwnV.nil _ _ _ _, by rw [hcl]; rfl, WF, hO6, hs3.trans hs6, YF, ?_, fun hh => by rw [castO, if_pos hcn, hlw] at hh; cases hh⟩
                  exact Nat.le_trans x5.size ZS
                | some xc =>
                  have hcl : castL m k s = [((xc : Int), ⟨#[99]⟩)] := by rw [castL, castO, if_pos hcn, hlw]
                  have hxv := hx6 xc hlw
                  subst hxv
                  simp only [hlw, Option.isSome_some, hcells XF, splice, coreS, Value.cells, Value.oneCell', Nat.reduceAdd, Nat.reduceSub, Nat.reduceMul, Nat.reduceLeDiff, Int.reduceEq, Nat.reduceEqDiff, H9Fs109]
                  refine ⟨by decide, ?_⟩
                  refine app151 (h := h13.push (.cells #[.int .i64 (xv : Int), .string ⟨#[99]⟩] 143)) (xs := []) (ys := [((xv : Int), ⟨#[99]⟩)]) (m0 := h13.size) (len := 0) (m := 1) (by rfl) (by rfl) (OwnV.nil _ _ _ _) (by rw [Array.size_push]; omega) (wayRow push_new) rfl (by decide) fun a' cap' h14 O14 A14 => ?_
                  have X14 := A14.extV (OwnV.nil h13.size _ 143 2) ((Ext.refl h13).push (.cells #[.int .i64 (xv : Int), .string ⟨#[99]⟩] 143)) (Nat.le_refl _)
                  simp only [coreS, Value.cells, Value.oneCell', Nat.reduceAdd, Nat.reduceSub, Nat.reduceMul, Nat.reduceLeDiff, Int.reduceEq, Nat.reduceEqDiff, H9Fs109]
                  refine midK_mk (by kernel_rfl) ⟨es6, c6, a', 0 + 1, cap', rfl, by rw [hcl]; exact O14.mono (Nat.le_trans x5.size ZS), by rw [hcl]; rfl, WF.ext X14, hO6, hs3.trans hs6, YF.ext X14, ?_, fun _ => hh6 (by rw [hlw]; rfl)⟩
                  exact Nat.le_trans (Nat.le_trans x5.size ZS) X14.size
          · rintro g5 h5 ⟨es1, c1, a1, n1, d1, hg1, O1, hn1, w5, hO5, hs5, y5, hsz5, hc5⟩
            simp only [hg1, w5.t4, coreS, Value.cells, Value.oneCell', Nat.reduceAdd, Nat.reduceSub, Nat.reduceMul, Nat.reduceLeDiff, Int.reduceEq, Nat.reduceEqDiff, H9Fs109]
            refine CallsH.mono (wait82 m b s h5 gd w5.ok w5.ov hs) ?_
            rintro v h6 ⟨rfl, x6⟩
            have t13 := push_new (h := h6) (o := .cells #[.int .i64 0, .int .i64 0] 84)
            simp only [spV, t13, splice, coreS, Value.cells, Value.oneCell', Nat.reduceAdd, Nat.reduceSub, Nat.reduceMul, Nat.reduceLeDiff, Int.reduceEq, Nat.reduceEqDiff, H9Fs109]
            refine stK_abs t13 (by simp) fun h7 g7 u7 => ?_
            simp only [splice] at g7
            have x7 : Ext h6 h7 := u7.ext ((Ext.refl _).push _) (Nat.le_refl _)
            have w7 := (w5.ext x6).ext x7
            have y7 := (y5.ext x6).ext x7
            have O7 := (O1.ext x6).ext x7
            have hsz7 : h4.size ≤ h7.size := Nat.le_trans hsz5 (Nat.le_trans x6.size x7.size)
            simp only [g7, w7.t4, splice, coreS, Value.cells, Value.oneCell', Nat.reduceAdd, Nat.reduceSub, Nat.reduceMul, Nat.reduceLeDiff, Int.reduceEq, Nat.reduceEqDiff, H9Fs109]
            refine neSp rfl rfl ?_
            obtain ⟨bw, hbw⟩ : ∃ bw, bw = !decide (m.ov.W s = s) := ⟨_, rfl⟩
            rw [← hbw]
            simp only [coreS, Value.cells, Value.oneCell', Nat.reduceAdd, Nat.reduceSub, Nat.reduceMul, Nat.reduceLeDiff, Int.reduceEq, Nat.reduceEqDiff, H9Fs109]
            refine cd_cut [10, 14, 15, 66, 67, 68, 69, 70, 71, 72, 73, 74, 75, 76, 77, 78, 79, 80, 81, 82, 83, 84] (fun g h8 => ∃ es2 c2 a n c, g 10 = .slice a n c ∧ OwnV h4.size h8 143 2 a n c (waysC (castL m k s ++ waitL m k s)) ∧ n = (castL m k s ++ waitL m k s).length ∧ WS m b mb h.size k s h8 es2 c2 ∧ m.ov.Ok es2 ((s, k + 1) :: op) ∧ m.ov.Sub es es2 ∧ Chg h h8 mb ∧ ((castO m k s).isSome → m.ov.has es2 (m.ov.C s, k)) ∧ ((waitO m k s).isSome → m.ov.has es2 (m.ov.W s, k + 1))) ?_ ?_
            · by_cases hws : m.ov.W s = s
              · have hwl : waitL m k s = [] := by rw [waitL, waitO, if_pos hws]
                obtain rfl : bw = false := by rw [hbw]; simp [hws]
                simp only [coreS, Value.cells, Value.oneCell', Nat.reduceAdd, Nat.reduceSub, Nat.reduceMul, Nat.reduceLeDiff, Int.reduceEq, Nat.reduceEqDiff, H9Fs109]
                exact midK_mk (by kernel_rfl) ⟨es1, c1, a1, n1, d1, rfl, by rw [hwl, List.append_nil]; exact O7, by rw [hwl, List.append_nil]; exact hn1, w7, hO5, hs5, y7, hc5, fun hh => by rw [waitO, if_pos hws] at hh; cases hh⟩
              · have hltW : ∀ a ∈ (s, k + 1) :: op, OV.Lt (m.ov.W s, k + 1) a := fun a ha => by
                  rcases List.mem_cons.1 ha with rfl | ha
                  · exact OV.lt_W gd.ok hs hws _
                  · exact (OV.lt_W gd.ok hs hws _).trans (hlt a ha)
                have hsum := OV.W_lt gd.ok hs hws
                obtain rfl : bw = true := by rw [hbw]; simp [hws]
                simp only [g7, w7.t4, splice, coreS, Value.cells, Value.oneCell', Nat.reduceAdd, Nat.reduceSub, Nat.reduceMul, Nat.reduceLeDiff, Int.reduceEq, Nat.reduceEqDiff, H9Fs109]
                refine CallsH.mono (ihn _ (by omega) (m.ov.W s) rfl _ _ ((s, k + 1) :: op) h7 (hs.w gd.ok) w7.ok w7.ov w7.mp hO5 hltW) ?_
                rintro v h8 ⟨⟨xv, lv, rfl, hx8⟩, es8, c8, M8, hO8, hs8, hh8, ch8⟩
                have w8 := w7.chg ch8 M8
                have y8 := y7.trans ch8
                have O8 := OwnV.chg O7 w7.mp.obj ch8
                have t14 := push_new (h := h8) (o := .cells #[.int .i64 0, .string ByteArray.empty] 143)
                simp only [OV.wayV, t14, splice, coreS, Value.cells, Value.oneCell', Nat.reduceAdd, Nat.reduceSub, Nat.reduceMul, Nat.reduceLeDiff, Int.reduceEq, Nat.reduceEqDiff, H9Fs109]
                refine stK_abs t14 (by simp) fun h9 g9 u9 => ?_
                simp only [splice] at g9
                have x9 : Ext h8 h9 := u9.ext ((Ext.refl _).push _) (Nat.le_refl _)
                have w9 := w8.ext x9
                have y9 := y8.ext x9
                have O9 := O8.ext x9
                have hsz9 : h4.size ≤ h9.size := Nat.le_trans hsz7 (Nat.le_trans ch8.size x9.size)
                cases hlw : m.ov.lw (k + 1) (m.ov.W s) with
                | none =>
                  have hwl : waitL m k s = [] := by rw [waitL, waitO, if_neg hws, hlw]
                  simp only [hlw, Option.isSome_none, coreS, Value.cells, Value.oneCell', Nat.reduceAdd, Nat.reduceSub, Nat.reduceMul, Nat.reduceLeDiff, Int.reduceEq, Nat.reduceEqDiff, H9Fs109]
                  exact midK_mk (by kernel_rfl) ⟨es8, c8, a1, n1, d1, rfl, by rw [hwl, List.append_nil]; exact O9, by rw [hwl, List.append_nil]; exact hn1, w9, hO8, hs5.trans hs8, y9, fun hh => (hc5 hh).sub hs8, fun hh => by rw [waitO, if_neg hws, hlw] at hh; cases hh⟩
                | some xc =>
                  have hwl : waitL m k s = [((xc : Int) + 1, ⟨#[119]⟩)] := by rw [waitL, waitO, if_neg hws, hlw]
                  have hxv := hx8 xc hlw
                  subst hxv
                  have hxle := lw_le gd hn16 (hs.w gd.ok) hlw
                  have hcl1 : (castL m k s).length ≤ 1 := by unfold castL; split <;> simp
                  simp only [hlw, Option.isSome_some, hg1, g9, splice, coreS, Value.cells, Value.oneCell', Nat.reduceAdd, Nat.reduceSub, Nat.reduceMul, Nat.reduceLeDiff, Int.reduceEq, Nat.reduceEqDiff, H9Fs109]
                  refine ⟨by rw [inK_i64]; omega, ?_⟩
                  refine ⟨by decide, ?_⟩
                  refine app151 (xs := castL m k s) (ys := [((xv : Int) + 1, ⟨#[119]⟩)]) (m0 := h4.size) (len := n1) (m := 1) (by rfl) (by rfl) (O9.ext ((Ext.refl h9).push (.cells #[.int .i64 ((xv : Int) + 1), .string ⟨#[119]⟩] 143))) (by rw [Array.size_push]; omega) (wayRow push_new) rfl (by omega) fun a' cap' h14 O14 A14 => ?_
                  have O9' := O9.ext ((Ext.refl h9).push (.cells #[.int .i64 ((xv : Int) + 1), .string ⟨#[119]⟩] 143))
                  have w9' := w9.ext ((Ext.refl h9).push (.cells #[.int .i64 ((xv : Int) + 1), .string ⟨#[119]⟩] 143))
                  have y14 : Chg h h14 mb := Chg.app (y9.push (.cells #[.int .i64 ((xv : Int) + 1), .string ⟨#[119]⟩] 143)) A14 O9' (by have := y4.size; omega)
                  have w14 : WS m b mb h.size k s h14 es8 c8 := ⟨A14.updV O9' w9'.t4 (lt_of_get w4.t4), A14.updV O9' w9'.t6 (lt_of_get w4.t6), ho.chg M.obj y14, hm.chg M.obj y14, w9'.mp.keep (by rw [w9'.mp.obj]; exact A14.updV O9' w9'.mp.obj (lt_of_get w4.mp.obj))⟩
                  simp only [coreS, Value.cells, Value.oneCell', Nat.reduceAdd, Nat.reduceSub, Nat.reduceMul, Nat.reduceLeDiff, Int.reduceEq, Nat.reduceEqDiff, H9Fs109]
                  refine midK_mk (by kernel_rfl) ⟨es8, c8, a', n1 + 1, cap', rfl, by rw [hwl]; exact O14, by rw [hwl, List.length_append, hn1]; rfl, w14, hO8, hs5.trans hs8, y14, fun hh => (hc5 hh).sub hs8, fun _ => hh8 (by rw [hlw]; rfl)⟩
            · rintro g8 h8 ⟨es2, c2, a2, n2, d2, hg2, O2, hn2, w8, hO8, hs8, y8, hc8, hw8⟩
              have hlen := lists_cw gd (k := k) hs
              rw [← hn2] at hlen
              simp only [hg2, coreS, Value.cells, Value.oneCell', Nat.reduceAdd, Nat.reduceSub, Nat.reduceMul, Nat.reduceLeDiff, Int.reduceEq, Nat.reduceEqDiff, H9Fs109]
              cases hlw : m.ov.lw (k + 1) s with
              | none =>
                have hz := hlen.2 hlw
                have hz' : (n2 : Int) = 0 := by omega
                simp only [hz', w8.t6, decide_true, splice, coreS, Value.cells, Value.oneCell', Nat.reduceAdd, Nat.reduceSub, Nat.reduceMul, Nat.reduceLeDiff, Int.reduceEq, Nat.reduceEqDiff, H9Fs109]
                refine stK_abs (c := [.int .i64 0, .string ByteArray.empty]) w8.t6 (by simp) fun h9 g9 u9 => ?_
                simp only [splice] at g9
                have hn9 := lt_of_get w0.t4
                have y9 : Chg h h9 mb := y8.upd_new u9 (by omega)
                simp only [g9, splice, coreS, Value.cells, Value.oneCell', Nat.reduceAdd, Nat.reduceSub, Nat.reduceMul, Nat.reduceLeDiff, Int.reduceEq, Nat.reduceEqDiff, H9Fs109]
                exact ⟨⟨0, ByteArray.empty, by rw [hlw]; rfl, fun y hy => by rw [hlw] at hy; cases hy⟩, es2, c2, w8.mp.keep (u9.old _ (by have := lt_of_get M.obj; omega)), hO8.none (OV.right_none hlw), hs8, fun hh => (by rw [hlw] at hh; cases hh), y9⟩
              | some x =>
                have hz : ¬ n2 = 0 := fun e => by rw [hlen.1 e] at hlw; cases hlw
                have hz' : ¬ (n2 : Int) = 0 := by omega
                have hl2 : n2 ≤ 2 := by
                  have e2 : n2 = (castL m k s).length + (waitL m k s).length := by rw [hn2, List.length_append]
                  have h1 : (castL m k s).length ≤ 1 := by unfold castL; split <;> simp
                  have h2 : (waitL m k s).length ≤ 1 := by unfold waitL; split <;> simp
                  omega
                simp only [hz', decide_false, coreS, Value.cells, Value.oneCell', Nat.reduceAdd, Nat.reduceSub, Nat.reduceMul, Nat.reduceLeDiff, Int.reduceEq, Nat.reduceEqDiff, H9Fs109]
                refine WP_tree (by kernel_rfl) sta_ext (.quiet 0 (.quiet 1 (.quiet 2 (.quiet 3 (.one 4 (.fin)))))) (by kernel_rfl) rfl (by kernel_rfl) ?_
                have hsc : m.ov.has es2 (m.ov.succ (s, k + 1)) := by
                  show m.ov.has es2 (if m.ov.first k s then (m.ov.C s, k) else (m.ov.W s, k + 1))
                  cases hf : m.ov.first k s with
                  | true =>
                    obtain ⟨h1, h2, h3⟩ := OV.first_true gd.ok hs hf
                    exact hc8 (by rw [castO, if_pos h1]; exact h3)
                  | false =>
                    obtain ⟨h1, y, h2, h3⟩ := OV.first_false gd.ok hs hf hlw
                    exact hw8 (by rw [waitO, if_neg h1, h3]; rfl)
                simp only [hg2, w8.t4, coreS, Value.cells, Value.oneCell', Nat.reduceAdd, Nat.reduceSub, Nat.reduceMul, Nat.reduceLeDiff, Int.reduceEq, Nat.reduceEqDiff, drawS, treeS, H9Fs109]
                refine cQ_ext _ (fun h' x' => CallsH.mono (best118 a2 n2 d2 _ h' (O2.ext x').row hn2 (by omega) O2.cap (by omega)) fun v h'' q => ⟨q.1, q.2⟩) ?_
                rw [best_cw gd hs hlw]
                simp only [coreS, Value.cells, Value.oneCell', Nat.reduceAdd, Nat.reduceSub, Nat.reduceMul, Nat.reduceLeDiff, Int.reduceEq, Nat.reduceEqDiff, drawS, treeS, H9Fs109]
                refine execT_one fun h9 x9 => ?_
                have w9 := w8.ext x9
                simp only [coreS, Value.cells, Value.oneCell', Nat.reduceAdd, Nat.reduceSub, Nat.reduceMul, Nat.reduceLeDiff, Int.reduceEq, Nat.reduceEqDiff, drawS, treeS, H9Fs109]
                refine map_putT Tryd.underlying139 keysS w9.mp (a := (s, k + 1)) (v := OV.wayV x (OV.ltr (m.ov.first k s))) (by rfl) (by rfl) (by rfl) fun h10 M10 u10 => ?_
                obtain ⟨hO10, hs10, hh10⟩ := hO8.done (OV.right_some hlw) hsc c2
                try simp only [coreS, Value.cells, Value.oneCell', Nat.reduceAdd, Nat.reduceSub, Nat.reduceMul, Nat.reduceLeDiff, Int.reduceEq, Nat.reduceEqDiff, drawS, treeS, H9Fs109]
                refine execT_fin fun h11 x11 => ?_
                have w11 := (w9.chg ((Chg.refl h9 mb).upd u10) M10).ext x11
                have y11 := ((y8.ext x9).upd u10).ext x11
                simp only [w11.t4, coreS, Value.cells, Value.oneCell', Nat.reduceAdd, Nat.reduceSub, Nat.reduceMul, Nat.reduceLeDiff, Int.reduceEq, Nat.reduceEqDiff, H9Fs109]
                refine map_getT Tryd.underlying139 zero143 keysS w11.mp (a := (s, k + 1)) (ok := false) (by rfl) (by rfl) ?_
                have hgp : getA (s, k + 1) (putA (s, k + 1) (OV.wayV x (OV.ltr (m.ov.first k s))) c2 es2) = some (OV.wayV x (OV.ltr (m.ov.first k s))) := by rw [getA_put, if_pos rfl]
                simp only [OV.wayV] at hgp
                simp only [hgp, w11.t6, Option.getD_some, Bool.false_eq_true, if_false, OV.wayV, splice, coreS, Value.cells, Value.oneCell', Nat.reduceAdd, Nat.reduceSub, Nat.reduceMul, Nat.reduceLeDiff, Int.reduceEq, Nat.reduceEqDiff, H9Fs109]
                refine stK_abs (c := [.int .i64 0, .string ByteArray.empty]) w11.t6 (by simp) fun h12 g12 u12 => ?_
                simp only [splice] at g12
                have hn9 := lt_of_get w0.t4
                simp only [g12, splice, coreS, Value.cells, Value.oneCell', Nat.reduceAdd, Nat.reduceSub, Nat.reduceMul, Nat.reduceLeDiff, Int.reduceEq, Nat.reduceEqDiff, H9Fs109]
                exact ⟨⟨x, _, by rw [hlw]; rfl, fun y hy => by rw [hlw] at hy; exact Option.some.inj hy⟩, _, _, w11.mp.keep (u12.old _ (by have := lt_of_get M.obj; omega)), hO10, hs8.trans hs10, fun _ => hh10, y11.upd_new u12 (by omega)⟩
    exact fun s => key _ s rfl
end Go.Proofs.YtafemfjhflfdeaaDoor
end
section
set_option linter.unusedVariables false
set_option linter.unusedSimpArgs false
namespace Go.Eng
open Go
attribute [local semireducible] opSem opQS CallsW setD WP
section bytes
variable {P : Program} {er : Env} {h : Heap} {ty : TypeId}
def strV (s : ByteArray) : List Value := s.data.toList.map fun b => .int .u8 b.toNat
theorem strV_length (s : ByteArray) : (strV s).length = s.size := by rw [strV, List.length_map, Array.length_toList]; rfl
theorem foldl_push : ∀ (l : List UInt8) (b : ByteArray), ((l.map fun x => (x.toNat : Int)).foldl (fun r n => r.push (UInt8.ofNat n.toNat)) b).data.toList = b.data.toList ++ l
  | [], b => by simp
  | x :: l, b => by
    rw [List.map_cons, List.foldl_cons, foldl_push l]
    simp [ByteArray.push]
theorem conv_bytes_strT {src dst e : TypeId} (hs : P.underlying src = some (.slice e)) (hd : P.underlying dst = some .string) (he : P.underlying e = some (.int .u8)) {s : ByteArray} {a : Option Addr} {n c : Nat} {x : Operand} {Q : Value → Heap → Prop} (hx : ev er x = .slice a n c)
    (I : Row h a (strV s)) (hn : n = s.size) (H : Q (.string s) h) : opSem P (.convert src dst x) ty er h Q := by
  refine opSem_pure rfl _ H fun w hw => ?_
  subst hw
  have g1 := run_convert_bytes_string (P := P) w src dst e a n c hs he hd
  have g2 : (Conv.bytesToString (.slice a n c)).run P w = .ok (.string s) w := by
    cases a with
    | none =>
      have h0 : s.size = 0 := by
        rcases I with I | ⟨g, off, cur, ct, fr, h1, _⟩
        · rw [← strV_length, I]; rfl
        · cases h1
      have : s = ByteArray.empty := by
        apply ByteArray.ext
        apply Array.eq_empty_of_size_eq_zero
        exact h0
      subst this
      rfl
    | some a =>
      have hf := firstV (P := P) (w := w) (b := some a) (m := n) (c := c) (k := n) (s := 1) I (by rw [strV_length, hn, Nat.mul_one]) (Nat.le_refl _)
      have hl : (loadCells a n).run P w = .ok ((s.data.toList.map fun x => (x.toNat : Int)).map (Value.int .u8)).toArray w := by
        have e1 : (strV s).take (n * 1) = (s.data.toList.map fun x => (x.toNat : Int)).map (Value.int .u8) := by
          rw [List.take_of_length_le (by rw [strV_length]; omega), List.map_map]; rfl
        rw [e1] at hf
        simpa [Builtin.firstCells] using hf
      rw [run_bytesToString w a n c _ hl]
      congr 2
      apply ByteArray.ext
      apply Array.toList_inj.1
      rw [foldl_push]
      simp
  simp only [execOp, hx, Sem.run_bind, g1, g2, Result.andThen_ok, Sem.run_pure]
end bytes
end Go.Eng
end
section
set_option linter.unusedVariables false
set_option linter.unusedSimpArgs false
namespace Go.Eng
open Go
attribute [local semireducible] opSem opQS CallsW setD WP
section strapp
variable {P : Program} {er : Env} {h : Heap} {ty : TypeId} {h0 : Nat}
theorem str_src {ats : Array TypeId} {t2 : TypeId} (h1 : ats[1]? = some t2) (hu : P.underlying t2 = some .string) {m : Nat} {str : ByteArray} (hm : m = str.size) : Go.Run.Src P ats h 1 m (.string str) (strV str) := by
  refine ⟨⟨t2, _, h1, hu, .inr rfl⟩, fun w _ => by simp [Builtin.lenOf, hm], fun w hw => ?_, fun _ n hn w hw => ?_⟩
  · have : str.extract 0 m = str := by rw [hm]; exact ByteArray.extract_zero_size
    simp only [Builtin.firstCells, this, Sem.run_pure]
    congr 1
    apply Array.toList_inj.1
    simp [strV]
  · simp only [Builtin.firstCells, Sem.run_pure]
    congr 1
    apply Array.toList_inj.1
    simp [strV, ByteArray.data_extract, Array.toList_extract, List.extract_eq_take_drop]
theorem append_str {t t2 el : TypeId} {i : TypeInfo} {z : Value} {str : ByteArray} (hu : P.underlying t = some (.slice el)) (hu2 : P.underlying t2 = some .string) (hi : P.info? el = some i) (hsz : i.size = 1) (hz : i.zero = some z) (hzs : z.cells.size = 1)
    {x y : Operand} {a : Option Addr} {len cap m : Nat} {xs : List Value} {K : Value → Heap → Prop} (hx : ev er x = .slice a len cap) (hy : ev er y = .string str) (O : OwnV h0 h el 1 a len cap xs) (h0h : h0 ≤ h.size) (hm' : m = str.size) (hb : len + m ≤ 1000000) (hby : (len + m) * i.bytes ≤ 1000000)
    (H : ∀ a' cap' h', OwnV h0 h' el 1 a' (len + m) cap' (xs ++ strV str) → App h h' a a' → K (.slice a' (len + m) cap') h') : opSem P (.call ⟨.builtin .append, #[x, y], #[t, t2]⟩) ty er h K := by
  unfold opSem
  refine And.intro rfl fun w hw => ?_
  subst hw
  have hxl := O.ln
  have hyl : (strV str).length = m * 1 := by rw [strV_length, hm', Nat.mul_one]
  have h1 : ∀ u ∈ strV str, u.oneCell' = true := fun u hu => by
    obtain ⟨b, _, rfl⟩ := List.mem_map.1 hu
    rfl
  have hlen : (xs ++ strV str).length = (len + m) * 1 := by rw [List.length_append, O.ln, hyl, Nat.add_mul]
  have hs := str_src (P := P) (h := w.heap) (ats := #[t, t2]) rfl hu2 hm'
  have hargs : #[x, y].map (ev er) = #[.slice a len cap, .string str] := by simp [hx, hy]
  have key : ∀ v w', (Builtin.append_ #[t, t2] ty #[.slice a len cap, .string str]).run P w = .ok v w' → Rest w w' → K v w'.heap →
      semPost P w K ((execOp (ev er) { dst := none, op := .call ⟨.builtin .append, #[x, y], #[t, t2]⟩, type := ty, pos := "", after := #[], guard := none }).run P w) := by
    intro v w' h1 h2 h3
    have : (execOp (ev er) { dst := none, op := .call ⟨.builtin .append, #[x, y], #[t, t2]⟩, type := ty, pos := "", after := #[], guard := none }).run P w = .ok (.value v) w' := by
      simp only [execOp, resolve, invoke, builtin, Sem.run_bind, Sem.run_pure, Result.andThen_ok, hargs, h1]
    rw [this]
    exact ⟨h3, h2⟩
  have grow : cap < len + m → semPost P w K ((execOp (ev er) { dst := none, op := .call ⟨.builtin .append, #[x, y], #[t, t2]⟩, type := ty, pos := "", after := #[], guard := none }).run P w) := by
    intro hgr
    have g1 := Go.Run.ap_grow (P := P) (ty := ty) (ats := #[t, t2]) (z := z) (sLen := len) (sCap := cap) (b := a) (olds := xs) rfl hu hi hz w (by rw [hsz]; exact hs)
      (fun w' hw' => by
        have hI := O.row
        rw [← hw'] at hI
        have := firstV (P := P) (c := cap) hI O.ln (Nat.le_refl len)
        rw [List.take_of_length_le (by omega)] at this
        rw [hsz]
        exact this) hgr (by omega) (by omega)
    have hge := grownCap_ge w (len + m) cap el
    refine key _ _ g1 ⟨rfl, rfl, rfl⟩ (H _ _ _ ⟨hlen, .inr ⟨w.heap.size, _, rfl, h0h, push_new, ?_, hge, ?_⟩⟩ ⟨by simp, fun c hc _ => ?_, fun p hp => ?_⟩)
    · have e1 : (len + m) * 1 + (grownCap w (len + m) cap el - (len + m)) * 1 = grownCap w (len + m) cap el * 1 := by rw [← Nat.add_mul]; congr 1; omega
      simp only [List.size_toArray, List.length_append, Array.length_toList, zeroCells_size, hzs, hxl, hyl, Nat.add_mul] at e1 ⊢
      omega
    · rw [List.toList_toArray, List.take_append_of_le_length (by omega), List.take_of_length_le (by omega)]
    · show (w.heap.push _)[c]? = _
      rw [push_get, if_neg (by omega)]
    · cases hp
      exact .inr (Nat.le_refl _)
  rcases O.ok with ⟨rfl, rfl, rfl⟩ | ⟨g, cur, rfl, q1, q2, q3, q4, q5⟩
  · by_cases hm : m = 0
    · subst hm
      have hy0 : strV str = [] := List.length_eq_zero_iff.1 (by simpa using hyl)
      have hx0 : xs = [] := List.length_eq_zero_iff.1 (by simpa using hxl)
      have g1 := Go.Run.ap_none (P := P) (ty := ty) (ats := #[t, t2]) rfl hu hi w (x := .string str) (news := strV str) (by rw [hsz]; exact hs)
      exact key _ _ g1 (Rest.refl w) (H none 0 w.heap ⟨by rw [hx0, hy0]; simp, .inl ⟨rfl, rfl, rfl⟩⟩ ⟨Nat.le_refl _, fun _ _ _ => rfl, fun p hp => by cases hp⟩)
    · exact grow (by omega)
  · by_cases hr : len + m ≤ cap
    · have hms : (len + m) * 1 ≤ cap * 1 := Nat.mul_le_mul_right _ hr
      rw [Nat.add_mul] at hms
      have g1 := Go.Run.ap_room (P := P) (ty := ty) (ats := #[t, t2]) (sLen := len) (sCap := cap) (off := 0) rfl hu hi w (by rw [hsz]; exact hs) q2 h1 hr (by rw [hsz]; omega)
      refine key _ _ g1 ⟨rfl, rfl, rfl⟩ (H _ _ _ ⟨hlen, .inr ⟨g, _, rfl, q1, (setRow_heap q2 _).1, ?_, hr, ?_⟩⟩ ⟨by simp [World.setRow], fun c hc hne => ?_, fun p hp => .inl ⟨p, hp, rfl⟩⟩)
      · simp [splice, hsz]; omega
      · rw [List.toList_toArray, hsz, Nat.zero_add, splice, q5]
        rw [List.take_append_of_le_length (by omega), List.take_of_length_le (by omega)]
      · have : g ≠ c := hne _ rfl
        simp [World.setRow, Array.getElem?_modify, this]
    · exact grow (by omega)
theorem append_strT {t t2 el : TypeId} {z : Value} {str : ByteArray} (hu : P.underlying t = some (.slice el)) (hu2 : P.underlying t2 = some .string) (hi : (P.info? el).isSome = true) (hsz : szT P el = 1) (hz : zeroT P el = some z) (hzs : z.cells.size = 1)
    {x y : Operand} {a : Option Addr} {len cap m : Nat} {xs : List Value} {K : Value → Heap → Prop} (hx : ev er x = .slice a len cap) (hy : ev er y = .string str) (O : OwnV h0 h el 1 a len cap xs) (h0h : h0 ≤ h.size) (hm' : m = str.size) (hb : len + m ≤ 1000000) (hby : (len + m) * bytesT P el ≤ 1000000)
    (H : ∀ a' cap' h', OwnV h0 h' el 1 a' (len + m) cap' (xs ++ strV str) → App h h' a a' → K (.slice a' (len + m) cap') h') : opSem P (.call ⟨.builtin .append, #[x, y], #[t, t2]⟩) ty er h K := by
  obtain ⟨i, hi⟩ := Option.isSome_iff_exists.1 hi
  exact append_str hu hu2 hi (by simpa [szT, hi] using hsz) (z := z) (by simpa [zeroT, hi] using hz) hzs hx hy O h0h hm' hb (by simpa [bytesT, hi] using hby) H
end strapp
end Go.Eng
end
section
namespace Go.Proofs.YtafemfjhflfdeaaDoor
open Go Go.Proofs Go.Eng Go.Run Tab
set_option maxRecDepth 100000
set_option linter.unusedSimpArgs false
set_option linter.unusedVariables false
set_option maxHeartbeats 4000000
set_option linter.defProp false
def H10Fs90 := (And.intro (And.intro (And.intro (And.intro @agg141 (And.intro @agg143 @agg3)) (And.intro (And.intro @agg84 @agg9) (And.intro @by5 @fo141_0))) (And.intro (And.intro (And.intro @fo141_1 @fo143_1) (And.intro @fot143_1 @fps141_0)) (And.intro (And.intro @fps141_1 @inf141) (And.intro @inf143 @inf3)))) (And.intro (And.intro (And.intro (And.intro @inf5 @inf84) (And.intro @inf9 @okf141)) (And.intro (And.intro @sz141 @sz143) (And.intro @sz3 @sz5))) (And.intro (And.intro (And.intro @sz84 @sz9) (And.intro @zero141 @zero143)) (And.intro (And.intro @zero5 @Tryd.underlying9) (And.intro @Tryd.underlying63 @Tryd.underlying139)))))
def planS (p : List Bool) : ByteArray := ⟨(p.map fun b => if b then 99 else 119).toArray⟩
theorem planS_cons (b : Bool) (p : List Bool) : planS (b :: p) = OV.ltr b ++ planS p := by
  apply ByteArray.ext
  apply Array.toList_inj.1
  cases b <;> simp [planS, OV.ltr]
theorem strV_append (s t : ByteArray) : strV (s ++ t) = strV s ++ strV t := by simp [strV]
theorem ltr_size (b : Bool) : (OV.ltr b).size = 1 := by cases b <;> rfl
theorem own_shrink {h : Eng.Heap} {m0 : Nat} {el : TypeId} {sz : Nat} {a : Option Addr} {len cap : Nat} {vs : List Value} (O : OwnV m0 h el sz a len cap vs) : OwnV m0 h el sz a len len vs := by
  refine ⟨O.ln, ?_⟩
  rcases O.ok with ⟨h1, h2, h3⟩ | ⟨g, cur, h1, h2, h3, h4, h5, h6⟩
  · exact .inl ⟨h1, h2, h2⟩
  · exact .inr ⟨g, cur, h1, h2, h3, Nat.le_trans (Nat.mul_le_mul_right _ h5) h4, Nat.le_refl _, h6⟩
theorem entry_form {m : MV} {es : OV.Ents} (H : m.ov.Ok es []) {a : OV.Std} {v : Value} (h : getA a es = some v) : ∃ (x : Nat) (l : ByteArray), v = OV.wayV x l ∧ (m.ov.right a = some v → l ≠ ByteArray.empty) := by
  rcases H.2 a v h with ⟨h1, _⟩ | ⟨h1, _⟩
  · obtain ⟨s, k⟩ := a
    cases k with
    | zero => cases h1
    | succ k =>
      cases hx : m.ov.lw (k + 1) s with
      | none => rw [OV.right_none hx] at h1; cases h1
      | some x =>
        have h3 := OV.right_some hx
        rw [h3] at h1
        cases h1
        refine ⟨x, _, rfl, fun _ e => ?_⟩
        have := congrArg ByteArray.size e
        rw [ltr_size] at this
        exact absurd this (by decide)
  · exact ⟨0, ByteArray.empty, h1, fun hr => absurd h1 (OV.right_ne hr)⟩
theorem mem_del {a : OV.Std} {x : OV.Std × Value × Nat} : ∀ {es : OV.Ents}, x ∈ es → x.1 ≠ a → x ∈ delA a es
  | y :: es, h, hne => by
    unfold delA
    split
    · rename_i e
      rcases List.mem_cons.1 h with rfl | h
      · exact absurd e.symm hne
      · exact h
    · rcases List.mem_cons.1 h with rfl | h
      · exact List.mem_cons_self
      · exact List.mem_cons_of_mem _ (mem_del h hne)
theorem own_empty {h : Eng.Heap} {el : TypeId} {g : Nat} (hb : h[g]? = some (.cells #[] el)) (hg : 0 ≤ g) : OwnV g h el 1 (some ⟨g, 0, none⟩) 0 0 [] := ⟨by simp, .inr ⟨g, #[], rfl, Nat.le_refl _, hb, by simp, Nat.le_refl _, rfl⟩⟩
theorem plan90 (m : MV) (gd : m.Good) (hn16 : m.casts.length ≤ 16) (b : Nat) (s : OV.Sp) (k : Nat) (hk : k ≤ 40) (h : Eng.Heap) (hs : m.ov.In s) (hm : m.ok h) (ho : Oven h b m) :
    CallsH Tryd.prog 90 #[.pointer (some ⟨b, 0, none⟩), spV s, .int .i64 k] h (fun v h' => v = (if (m.ov.lw k s).isSome then .tuple #[.string (planS (m.ov.pl k s)), .bool true] else .tuple #[.string ⟨#[]⟩, .bool false]) ∧ Ext h h') := by
  (refine CallsH_of_exec Tryd.func90 rfl bod90 ?_; simp only [Tryd.ntmps90, Tryd.results90, coreS, stK_some, splice, Value.cells, Value.oneCell', Nat.reduceAdd, Nat.reduceSub, Nat.reduceMul, Nat.reduceLeDiff, Int.reduceEq, Nat.reduceEqDiff, H10Fs90])
  obtain ⟨H2, hH2⟩ : ∃ H2, H2 = (((h.push (.cells #[.int .i64 (s.1 : Int), .int .i64 (s.2 : Int)] 84)).push (.map #[] 0)).push (.cells #[.int .i64 0, .int .i64 0, .int .i64 0] 141)) := ⟨_, rfl⟩
  have hsz2 : H2.size = h.size + 3 := by rw [hH2]; simp
  have xH2 : Ext h H2 := by rw [hH2]; exact (((Ext.refl h).push _).push _).push _
  have hm2 : H2[h.size + 1]? = some (.map #[] 0) := by rw [hH2]; exact push_old (by rw [Array.getElem?_push, if_pos (by simp)])
  have ht2 : H2[h.size + 1 + 1]? = some (.cells #[.int .i64 0, .int .i64 0, .int .i64 0] 141) := by rw [hH2, Array.getElem?_push, if_pos (by simp)]
  rw [← hH2]
  clear hH2
  have g3 := upd_same (h := H2) (b := h.size + 1 + 1) (c := [.int .i64 (s.1 : Int), .int .i64 (s.2 : Int), .int .i64 (k : Int)]) (ct := 141) (by omega)
  have u3 := Upd.updH (h := H2) (b := h.size + 1 + 1) (c := [.int .i64 (s.1 : Int), .int .i64 (s.2 : Int), .int .i64 (k : Int)]) (ct := 141)
  obtain ⟨h3, hh3⟩ : ∃ h3, h3 = updH H2 (h.size + 1 + 1) [.int .i64 (s.1 : Int), .int .i64 (s.2 : Int), .int .i64 (k : Int)] 141 := ⟨_, rfl⟩
  rw [← hh3] at g3 u3 ⊢
  clear hh3
  have x3 : Ext h h3 := u3.ext xH2 (by omega)
  have M3 : MapV stV h3 (h.size + 1) [] 0 := by
    have h4 := u3.get hm2 (by omega)
    exact ⟨h4, by simp, by simp⟩
  have hO0 : m.ov.Ok [] [] := ⟨List.nodup_nil, fun a v hv => by cases hv⟩
  simp only [g3, coreS, Value.cells, Value.oneCell', Nat.reduceAdd, Nat.reduceSub, Nat.reduceMul, Nat.reduceLeDiff, Int.reduceEq, Nat.reduceEqDiff, H10Fs90]
  refine CallsH.mono (ways109 m gd hn16 b (h.size + 1) k hk s [] 0 [] h3 hs (hm.ext x3) (x3.get ho) M3 hO0 (fun a ha => by cases ha)) ?_
  rintro v h4 ⟨⟨xv, lv, rfl, _⟩, es0, c0, M4, hO4, _, hh4, ch4⟩
  have x4 : Ext h h4 := Chg.fresh x3 ch4 (by omega)
  have ht4 := ch4.get g3 (by omega)
  have t10 := push_new (h := h4) (o := .cells #[.int .i64 0, .string ByteArray.empty] 143)
  simp only [OV.wayV, t10, splice, coreS, Value.cells, Value.oneCell', Nat.reduceAdd, Nat.reduceSub, Nat.reduceMul, Nat.reduceLeDiff, Int.reduceEq, Nat.reduceEqDiff, H10Fs90]
  refine stK_abs t10 (by simp) fun h5 g5 u5 => ?_
  have x45 : Ext h4 h5 := u5.ext ((Ext.refl _).push _) (Nat.le_refl _)
  have x5 := x4.trans x45
  have M5 := M4.ext x45
  have ht5 := x45.get ht4
  cases hlw : m.ov.lw k s with
  | none =>
    simp only [hlw, Option.isSome_none, coreS, Value.cells, Value.oneCell', Nat.reduceAdd, Nat.reduceSub, Nat.reduceMul, Nat.reduceLeDiff, Int.reduceEq, Nat.reduceEqDiff, H10Fs90]
    exact x5
  | some x0 =>
    simp only [hlw, Option.isSome_some, coreS, Value.cells, Value.oneCell', Nat.reduceAdd, Nat.reduceSub, Nat.reduceMul, Nat.reduceLeDiff, Int.reduceEq, Nat.reduceEqDiff, H10Fs90]
    refine map_rangeT Tryd.underlying139 M5 (by rfl) ?_
    simp only [coreS, Value.cells, Value.oneCell', Nat.reduceAdd, Nat.reduceSub, Nat.reduceMul, Nat.reduceLeDiff, Int.reduceEq, Nat.reduceEqDiff, H10Fs90]
    have hmb5 := lt_of_get M5.obj
    have htl5 := lt_of_get ht5
    have hsh := x5.size
    refine WP_loopI [12, 13, 31, 32, 33, 34, 35, 36, 37, 38, 39, 40] (fun g h6 => Chg h5 h6 (h.size + 1) ∧ ∃ seen es c, h6[h5.size]? = some (.mapIter (some (h.size + 1)) c0 seen c) ∧ c0 ≤ c ∧ MapV stV h6 (h.size + 1) es c0 ∧ es.Sublist es0 ∧ (∀ x ∈ es0, m.ov.right x.1 = some x.2.1 → x ∈ es)) (fun _ h6 => leftN h5.size (h.size + 1) h6) ?_ ?_
    · exact ⟨Chg.of_ext ((Ext.refl _).push _) _, #[], es0, c0, push_new, Nat.le_refl _, M5.ext ((Ext.refl _).push _), List.Sublist.refl _, fun x hx _ => hx⟩
    rintro g3 h6 ⟨c6, seen, es, c1, hr, hc1, M6, hsub, hin⟩
    have hμ := leftN_eq M6 hr
    have hr6 := lt_of_get hr
    have hs6 := c6.size
    simp only [coreS, Value.cells, Value.oneCell', Nat.reduceAdd, Nat.reduceSub, Nat.reduceMul, Nat.reduceLeDiff, Int.reduceEq, Nat.reduceEqDiff, H10Fs90]
    refine map_nextT M6 hr M6.lt hc1 (by rfl) ?_ ?_
    · intro hall
      simp only [coreS, Value.cells, Value.oneCell', Nat.reduceAdd, Nat.reduceSub, Nat.reduceMul, Nat.reduceLeDiff, Int.reduceEq, Nat.reduceEqDiff, H10Fs90]
      have hl0 : (m.ov.lw k s).isSome := by rw [hlw]; rfl
      have hnod : (es.map (·.1)).Nodup := hO4.1.sublist (hsub.map _)
      have led : ∀ (a : OV.Std), m.ov.has es0 a → ∀ j t, a = (t, j + 1) → (∃ v, m.ov.right a = some v ∧ getA a es = some v) ∧ m.ov.has es0 (m.ov.succ a) := by
        rintro a (h0 | ⟨v, h1, h2⟩) j t rfl
        · cases h0
        · obtain ⟨cc, hmem⟩ := mem_getA h2
          refine ⟨⟨v, h1, getA_mem hnod (hin _ hmem h1) rfl⟩, ?_⟩
          rcases hO4.2 _ _ h2 with ⟨_, h3⟩ | ⟨h3, _⟩
          · exact h3
          · exact absurd h3 (OV.right_ne h1)
      have xe : Ext h (h6.push (.cells #[] 5)) := (Chg.fresh x5 c6 (by omega)).push _
      have hte := ((Ext.refl h6).push (.cells #[] 5)).get (c6.get ht5 (by omega))
      have Me := M6.ext ((Ext.refl h6).push (.cells #[] 5))
      have Oe := own_empty (h := h6.push (.cells #[] 5)) (g := h6.size) push_new (Nat.zero_le _)
      have hhe := hh4 hl0
      refine WP_loopI [14, 15, 42, 43, 44, 45, 46, 47, 48, 49, 50, 51, 52, 53, 54, 55, 56, 57, 58, 59, 60, 61, 62, 63, 64, 65, 66, 67, 68, 69, 70, 71] (fun g h7 => ∃ (d : ByteArray) (t : OV.Sp) (j : Nat) (a : Option Addr) (cp : Nat), planS (m.ov.pl k s) = d ++ planS (m.ov.pl j t) ∧ d.size + (m.ov.pl j t).length = (m.ov.pl k s).length ∧ m.ov.In t ∧ j ≤ k ∧ (m.ov.lw j t).isSome ∧ m.ov.has es0 (t, j) ∧ h7[h.size + 1 + 1]? = some (.cells #[.int .i64 (t.1 : Int), .int .i64 (t.2 : Int), .int .i64 (j : Int)] 141) ∧ MapV stV h7 (h.size + 1) es c0 ∧ g 14 = .slice a d.size cp ∧ OwnV h6.size h7 5 1 a d.size cp (strV d) ∧ Ext h h7 ∧ h6.size ≤ h7.size) (fun _ h7 => match h7[h.size + 1 + 1]? with | some (.cells c _ _) => (match c.toList with | [.int _ x, .int _ y, .int _ z] => (m.ov.pl z.toNat (x.toNat, y.toNat)).length | _ => 0) | _ => 0) ?_ ?_
      · exact ⟨ByteArray.empty, s, k, _, 0, by simp, by simp, hs, Nat.le_refl _, hl0, hhe, hte, Me, rfl, Oe, xe, by simp⟩
      rintro g7 h7 ⟨d, t, j, a, cp, e1, e2, ht, hjk, hlj, hhas, htc, M7, hg14, O7, x7, hs7⟩
      cases j with
      | zero =>
        have z0 : ((0 : Nat) : Int) = 0 := rfl
        rw [z0] at htc
        simp only [htc, hg14, splice, coreS, Value.cells, Value.oneCell', Nat.reduceAdd, Nat.reduceSub, Nat.reduceMul, Nat.reduceLeDiff, Int.reduceEq, Nat.reduceEqDiff, H10Fs90]
        refine ⟨fun hh => absurd hh (by decide), fun _ => ?_⟩
        refine conv_bytes_strT (s := d) (a := a) (n := d.size) (c := cp) Tryd.underlying63 Tryd.underlying9 Tryd.underlying5 (by rfl) O7.row rfl ?_
        have e3 : planS (m.ov.pl k s) = d := by rw [e1]; show d ++ planS [] = d; exact ByteArray.append_empty
        simp only [e3, coreS, Value.cells, Value.oneCell', Nat.reduceAdd, Nat.reduceSub, Nat.reduceMul, Nat.reduceLeDiff, Int.reduceEq, Nat.reduceEqDiff, H10Fs90]
        exact x7
      | succ j =>
        have z0 : (0 : Int) < ((j + 1 : Nat) : Int) := by omega
        obtain ⟨⟨v, hv1, hv2⟩, hsucc⟩ := led _ hhas j t rfl
        obtain ⟨xw, hxw⟩ := Option.isSome_iff_exists.1 hlj
        rw [OV.right_some hxw] at hv1
        obtain rfl := Option.some.inj hv1
        simp only [htc, hg14, z0, decide_true, splice, coreS, Value.cells, Value.oneCell', Nat.reduceAdd, Nat.reduceSub, Nat.reduceMul, Nat.reduceLeDiff, Int.reduceEq, Nat.reduceEqDiff, H10Fs90]
        refine map_getT Tryd.underlying139 zero143 keysS M7 (a := (t, j + 1)) (ok := false) (by rfl) (by rfl) ?_
        simp only [OV.wayV] at hv2
        simp only [hv2, hg14, Option.getD_some, Bool.false_eq_true, if_false, coreS, Value.cells, Value.oneCell', Nat.reduceAdd, Nat.reduceSub, Nat.reduceMul, Nat.reduceLeDiff, Int.reduceEq, Nat.reduceEqDiff, H10Fs90]
        have hlen : (m.ov.pl k s).length ≤ 1400 := by
          have h1 := (OV.pl_run gd.ok hs hlw).2.2
          have h2 := lw_le gd hn16 hs hlw
          omega
        have hlz := ltr_size (m.ov.first j t)
        have hcp := O7.cap
        have hE : eltP a 0 = a := by
          rcases O7.ok with ⟨h1, _⟩ | ⟨g, cur, h1, _⟩
          · rw [h1]; rfl
          · rw [h1]; rfl
        refine ⟨by decide, by omega, by omega, by omega, ?_⟩
        refine append_strT Tryd.underlying63 Tryd.underlying9 inf5 sz5 zero5 (by rfl) (str := OV.ltr (m.ov.first j t)) (m := 1) (a := a) (len := d.size) (cap := d.size) (Eq.trans (b := .slice (if ((d.size : Nat) : Int) = ((0 : Nat) : Int) then a else eltP a 0) d.size d.size) (by rfl) (by rw [hE]; split <;> rfl)) (by rfl) (own_shrink O7) hs7 hlz.symm (by omega) (by rw [by5]; omega) fun a8 cp8 h8 O8 A8 => ?_
        rw [← strV_append] at O8
        have hsz8 : (d ++ OV.ltr (m.ov.first j t)).size = d.size + 1 := by rw [ByteArray.size_append, hlz]
        have tl7 := lt_of_get htc
        have t8 := A8.updV O7 htc (by omega)
        have M8 : MapV stV h8 (h.size + 1) es c0 := M7.keep (by rw [M7.obj]; exact A8.updV O7 M7.obj (by omega))
        have x8 : Ext h h8 := A8.extV O7 x7 (by omega)
        have hs8 : h6.size ≤ h8.size := Nat.le_trans hs7 A8.size
        cases hf : m.ov.first j t with
        | true =>
          obtain ⟨f1, f2, f3⟩ := OV.first_true gd.ok ht hf
          have ep := OV.pl_true gd.ok ht hf
          rw [hf] at O8 hsz8
          simp only [OV.ltr, hf, if_true, decide_true, coreS, Value.cells, Value.oneCell', Nat.reduceAdd, Nat.reduceSub, Nat.reduceMul, Nat.reduceLeDiff, Int.reduceEq, Nat.reduceEqDiff, H10Fs90]
          have ej : ((j + 1 : Nat) : Int) - 1 = (j : Int) := by omega
          refine WP_tree (by kernel_rfl) sta_ext (.quiet 0 (.quiet 1 (.quiet 2 (.quiet 4 (.quiet 5 (.quiet 6 (.keep 3 (.quiet 7 (.one 8 (.fin)))))))))) (by kernel_rfl) rfl (by kernel_rfl) ?_
          simp only [t8, splice, ej, coreS, Value.cells, Value.oneCell', Nat.reduceAdd, Nat.reduceSub, Nat.reduceMul, Nat.reduceLeDiff, Int.reduceEq, Nat.reduceEqDiff, drawS, treeS, H10Fs90]
          refine ⟨by rw [inK_i64]; omega, ?_⟩
          refine execT_keep fun h9 x9 => ?_
          simp only [coreS, Value.cells, Value.oneCell', Nat.reduceAdd, Nat.reduceSub, Nat.reduceMul, Nat.reduceLeDiff, Int.reduceEq, Nat.reduceEqDiff, drawS, treeS, H10Fs90]
          refine CallsH.mono (cast83 m b t h9 gd ((hm.ext x8).ext x9) (x9.get (x8.get ho)) ht) ?_
          rintro v h10 ⟨rfl, x10⟩
          refine ⟨x10, ?_⟩
          simp only [spV, splice, coreS, Value.cells, Value.oneCell', Nat.reduceAdd, Nat.reduceSub, Nat.reduceMul, Nat.reduceLeDiff, Int.reduceEq, Nat.reduceEqDiff, drawS, treeS, H10Fs90]
          refine execT_one fun h11 x11 => ?_
          have t11 := x11.get (x10.get (x9.get t8))
          simp only [t11, splice, coreS, Value.cells, Value.oneCell', Nat.reduceAdd, Nat.reduceSub, Nat.reduceMul, Nat.reduceLeDiff, Int.reduceEq, Nat.reduceEqDiff, drawS, treeS, H10Fs90]
          refine stK_abs (c := [.int .i64 (t.1 : Int), .int .i64 (t.2 : Int), .int .i64 ((j + 1 : Nat) : Int)]) t11 (by simp) fun h12 g12 u12 => ?_
          simp only [splice] at g12
          try simp only [coreS, Value.cells, Value.oneCell', Nat.reduceAdd, Nat.reduceSub, Nat.reduceMul, Nat.reduceLeDiff, Int.reduceEq, Nat.reduceEqDiff, drawS, treeS, H10Fs90]
          refine execT_fin fun h13 x13 => ?_
          simp only [coreS, Value.cells, Value.oneCell', Nat.reduceAdd, Nat.reduceSub, Nat.reduceMul, Nat.reduceLeDiff, Int.reduceEq, Nat.reduceEqDiff, H10Fs90]
          have tl8 := lt_of_get M8.obj
          have xx := (x9.trans x10).trans x11
          have g13 := x13.get g12
          refine roundK_mk (by kernel_rfl) ⟨d ++ OV.ltr true, m.ov.C t, j, a8, cp8, by rw [e1, ep, planS_cons, ByteArray.append_assoc], by rw [hsz8, ← e2, ep, List.length_cons]; omega, ht.c gd.ok, by omega, f3, by (have := hsucc; unfold OV.succ at this; simpa [hf] using this), g13, ((M8.ext xx).keep (u12.old _ (by have := xx.size; omega))).ext x13, by rw [hsz8]; rfl, by rw [hsz8]; exact ((O8.ext xx).upd u12 (by omega)).ext x13, (u12.ext (x8.trans xx) (by omega)).trans x13, Nat.le_trans (by rw [u12.size]; exact Nat.le_trans hs8 xx.size) x13.size⟩ ?_
          simp only [g13, htc]
          show (m.ov.pl ((j : Nat) : Int).toNat ((((m.ov.C t).1 : Nat) : Int).toNat, (((m.ov.C t).2 : Nat) : Int).toNat)).length < (m.ov.pl (j + 1) t).length
          rw [ep]
          exact Nat.lt_succ_self _
        | false =>
          obtain ⟨f1, y, f2, f3⟩ := OV.first_false gd.ok ht hf hxw
          have ep := OV.pl_false gd.ok ht hf hlj
          rw [hf] at O8 hsz8
          have hne : ¬ (⟨#[119]⟩ : ByteArray) = ⟨#[99]⟩ := by decide
          simp only [OV.ltr, hf, Bool.false_eq_true, if_false, hne, decide_false, t8, splice, coreS, Value.cells, Value.oneCell', Nat.reduceAdd, Nat.reduceSub, Nat.reduceMul, Nat.reduceLeDiff, Int.reduceEq, Nat.reduceEqDiff, H10Fs90]
          refine CallsH.mono (wait82 m b t h8 gd (hm.ext x8) (x8.get ho) ht) ?_
          rintro v h9 ⟨rfl, x9⟩
          have t9 := x9.get t8
          simp only [spV, t9, splice, coreS, Value.cells, Value.oneCell', Nat.reduceAdd, Nat.reduceSub, Nat.reduceMul, Nat.reduceLeDiff, Int.reduceEq, Nat.reduceEqDiff, H10Fs90]
          refine stK_abs (c := [.int .i64 (t.1 : Int), .int .i64 (t.2 : Int), .int .i64 ((j + 1 : Nat) : Int)]) t9 (by simp) fun h10 g10 u10 => ?_
          simp only [splice] at g10
          simp only [coreS, Value.cells, Value.oneCell', Nat.reduceAdd, Nat.reduceSub, Nat.reduceMul, Nat.reduceLeDiff, Int.reduceEq, Nat.reduceEqDiff, H10Fs90]
          have tl8 := lt_of_get M8.obj
          refine roundK_mk (by kernel_rfl) ⟨d ++ OV.ltr false, m.ov.W t, j + 1, a8, cp8, by rw [e1, ep, planS_cons, ByteArray.append_assoc], by rw [hsz8, ← e2, ep, List.length_cons]; omega, ht.w gd.ok, hjk, by rw [f3]; rfl, by (have := hsucc; unfold OV.succ at this; simpa [hf] using this), g10, (M8.ext x9).keep (u10.old _ (by omega)), by rw [hsz8]; rfl, by rw [hsz8]; exact (O8.ext x9).upd u10 (by omega), u10.ext (x8.trans x9) (by omega), by rw [u10.size]; exact Nat.le_trans hs8 x9.size⟩ ?_
          simp only [g10, htc]
          show (m.ov.pl (((j + 1 : Nat) : Int)).toNat ((((m.ov.W t).1 : Nat) : Int).toNat, (((m.ov.W t).2 : Nat) : Int).toNat)).length < (m.ov.pl (j + 1) t).length
          rw [ep]
          exact Nat.lt_succ_self _
    · intro e he hes h7 hr7 u7
      simp only [coreS, Value.cells, Value.oneCell', Nat.reduceAdd, Nat.reduceSub, Nat.reduceMul, Nat.reduceLeDiff, Int.reduceEq, Nat.reduceEqDiff, H10Fs90]
      have M7 : MapV stV h7 (h.size + 1) es c0 := M6.keep (u7.old _ (by omega))
      simp only [opW_entry]
      refine map_entryT M7 he hr7 (by rfl) ?_
      obtain ⟨a, ev, eb⟩ := e
      have hnod : (es.map (·.1)).Nodup := hO4.1.sublist (hsub.map _)
      obtain ⟨xe, le, rfl, hle⟩ := entry_form hO4 (getA_mem hO4.1 (hsub.subset he) rfl)
      simp only [stV, OV.wayV, coreS, Value.cells, Value.oneCell', Nat.reduceAdd, Nat.reduceSub, Nat.reduceMul, Nat.reduceLeDiff, Int.reduceEq, Nat.reduceEqDiff, H10Fs90]
      refine stK_abs (c := [.int .i64 0, .int .i64 0, .int .i64 0]) pn0 (by simp) fun h8 g8 u8 => ?_
      have g8b := u8.get pn1 (by omega)
      simp only [g8b, splice, coreS, Value.cells, Value.oneCell', Nat.reduceAdd, Nat.reduceSub, Nat.reduceMul, Nat.reduceLeDiff, Int.reduceEq, Nat.reduceEqDiff, H10Fs90]
      refine stK_abs (c := [.int .i64 0, .string ByteArray.empty]) g8b (by simp) fun h9 g9 u9 => ?_
      simp only [splice] at g8 g9
      have g8c := u9.get g8 (by omega)
      have s7 := u7.size
      have s8 := u8.size
      have s9 := u9.size
      simp only [Array.size_push] at s8
      have x77 : Ext h7 ((h7.push (.cells #[.int .i64 0, .int .i64 0, .int .i64 0] 141)).push (.cells #[.int .i64 0, .string ByteArray.empty] 143)) := ((Ext.refl h7).push _).push _
      have c9 : Chg h5 h9 (h.size + 1) := ((((c6.upd_new u7 (Nat.le_refl _)).ext x77).upd_new u8 (by omega)).upd_new u9 (by omega))
      have M9 : MapV stV h9 (h.size + 1) es c0 := ((M7.ext x77).keep (u8.old _ (by omega))).keep (u9.old _ (by omega))
      have hr9 : h9[h5.size]? = some (.mapIter (some (h.size + 1)) c0 (seen.push eb) c0) := u9.get (u8.get (x77.get hr7) (by omega)) (by omega)
      have hpush : ∀ w : Nat, (seen.push eb).contains w = (seen.contains w || decide (w = eb)) := fun w => by
        simp [Array.contains_push, eq_comm]
      have hdec : (es.filter fun x => !(seen.push eb).contains x.2.2).length < (es.filter fun x => !seen.contains x.2.2).length := by
        refine Go.Eng.filter_lt (fun x hx => ?_) he ?_ ?_
        · rw [hpush]; simp; exact fun h _ => h
        · simpa using hes
        · simp [hpush]
      by_cases hz : le = (⟨#[]⟩ : ByteArray)
      · simp only [g9, g8c, hz, splice, decide_true, coreS, Value.cells, Value.oneCell', Nat.reduceAdd, Nat.reduceSub, Nat.reduceMul, Nat.reduceLeDiff, Int.reduceEq, Nat.reduceEqDiff, H10Fs90]
        refine map_delT Tryd.underlying139 keysS M9 (a := a) (by rfl) (by rfl) fun h10 M10 u10 => ?_
        simp only [coreS, Value.cells, Value.oneCell', Nat.reduceAdd, Nat.reduceSub, Nat.reduceMul, Nat.reduceLeDiff, Int.reduceEq, Nat.reduceEqDiff, H10Fs90]
        have hr10 := u10.get hr9 (by omega)
        refine roundK_mk (by kernel_rfl) ⟨c9.upd u10, seen.push eb, _, c0, hr10, Nat.le_refl _, M10, del_sub.trans hsub, fun x hx hxr => ?_⟩ ?_
        · refine mem_del (hin x hx hxr) fun hxe => ?_
          have h1 := getA_mem hO4.1 hx hxe
          have h2 := getA_mem hO4.1 (hsub.subset he) rfl
          rw [h1] at h2
          rw [hxe, Option.some.inj h2] at hxr
          exact hle hxr hz
        · rw [leftN_eq M10 hr10, hμ]
          refine Nat.lt_of_le_of_lt ?_ hdec
          exact (del_sub.filter _).length_le
      · simp only [g9, g8c, hz, splice, decide_false, coreS, Value.cells, Value.oneCell', Nat.reduceAdd, Nat.reduceSub, Nat.reduceMul, Nat.reduceLeDiff, Int.reduceEq, Nat.reduceEqDiff, H10Fs90]
        refine roundK_mk (by kernel_rfl) ⟨c9, seen.push eb, es, c0, hr9, Nat.le_refl _, M9, hsub, hin⟩ ?_
        rw [leftN_eq M9 hr9, hμ]
        exact hdec
end Go.Proofs.YtafemfjhflfdeaaDoor
end
section
namespace Go.Proofs.YtafemfjhflfdeaaDoor
open Go Go.Proofs Go.Eng Go.Run Tab
set_option maxRecDepth 100000
set_option linter.unusedSimpArgs false
set_option linter.unusedVariables false
set_option maxHeartbeats 4000000
set_option linter.defProp false
def H11Fs24 := (And.intro @agg24 (And.intro @inf24 @sz24))
def H11Fs26 := (And.intro (And.intro (And.intro @agg24 (And.intro @by3 @fps84_0)) (And.intro @fps84_1 (And.intro @inf24 @inf3))) (And.intro (And.intro @okf84 (And.intro @sz24 @sz3)) (And.intro @zero3 (And.intro @zero84 @Tryd.underlying22))))
def H11Fs66 := (And.intro (And.intro (And.intro @agg84 @by3) (And.intro @inf3 @inf84)) (And.intro (And.intro @sz3 @sz84) (And.intro @zero3 @Tryd.underlying22)))
def fromE (m : MV) (t : OV.Sp) (k : Int) : Int := if ¬ (0 ≤ k ∧ k ≤ 30) then 2 else if (m.ov.lw k.toNat t).isSome then 0 else 22
def fromP (m : MV) (t : OV.Sp) (k : Int) : ByteArray := if fromE m t k = 0 then planS (m.ov.pl k.toNat t) else ⟨#[]⟩
theorem planned66 (m : MV) (gd : m.Good) (hn16 : m.casts.length ≤ 16) (b : Nat) (t : OV.Sp) (k : Int) (h : Eng.Heap) (ht : m.ov.In t) (hm : m.ok h) (ho : Oven h b m) :
    CallsH Tryd.prog 66 #[.pointer (some ⟨b, 0, none⟩), spV t, .int .i64 k] h (fun v h' => v = .tuple #[.string (fromP m t k), .int .i64 (fromE m t k)] ∧ Ext h h') := by
  (refine CallsH_of_exec Tryd.func66 rfl bod66 ?_; simp only [Tryd.ntmps66, Tryd.results66, coreS, stK_some, splice, Value.cells, Value.oneCell', Nat.reduceAdd, Nat.reduceSub, Nat.reduceMul, Nat.reduceLeDiff, Int.reduceEq, Nat.reduceEqDiff, H11Fs66])
  have x0 : Ext h (h.push (.cells (spC t) 84)) := (Ext.refl h).push _
  refine CallsH.mono (within62 0 30 _ 1 1 [k] _ (intsV_one pn1) (by omega)) ?_
  rintro v h1 ⟨rfl, x1⟩
  have y1 := (x0.push _).trans x1
  have hbx := x1.get pn0
  by_cases hk : 0 ≤ k ∧ k ≤ 30
  · obtain ⟨j, rfl⟩ : ∃ j : Nat, k = j := ⟨k.toNat, by omega⟩
    simp only [inB_one, hk, hbx, decide_true, Bool.not_true, coreS, Value.cells, Value.oneCell', Nat.reduceAdd, Nat.reduceSub, Nat.reduceMul, Nat.reduceLeDiff, Int.reduceEq, Nat.reduceEqDiff, H11Fs66]
    refine CallsH.mono (plan90 m gd hn16 b t j (by omega) h1 ht (hm.ext y1) (y1.get ho)) ?_
    rintro v h2 ⟨rfl, x2⟩
    have e0 : fromE m t j = if (m.ov.lw j t).isSome then 0 else 22 := by rw [fromE, if_neg (by simpa using hk)]; rfl
    cases hl : (m.ov.lw j t).isSome with
    | false =>
      rw [hl] at e0
      have e1 : fromE m t j = 22 := e0
      simp only [Bool.false_eq_true, if_false, Bool.not_false, coreS, Value.cells, Value.oneCell', Nat.reduceAdd, Nat.reduceSub, Nat.reduceMul, Nat.reduceLeDiff, Int.reduceEq, Nat.reduceEqDiff, H11Fs66]
      exact ⟨by rw [fromP, e1]; rfl, y1.trans x2⟩
    | true =>
      rw [hl] at e0
      have e1 : fromE m t j = 0 := e0
      simp only [if_true, Bool.not_true, coreS, Value.cells, Value.oneCell', Nat.reduceAdd, Nat.reduceSub, Nat.reduceMul, Nat.reduceLeDiff, Int.reduceEq, Nat.reduceEqDiff, H11Fs66]
      exact ⟨by rw [fromP, e1]; rfl, y1.trans x2⟩
  · have e1 : fromE m t k = 2 := by rw [fromE, if_pos hk]
    simp only [inB_one, hk, decide_false, Bool.not_false, coreS, Value.cells, Value.oneCell', Nat.reduceAdd, Nat.reduceSub, Nat.reduceMul, Nat.reduceLeDiff, Int.reduceEq, Nat.reduceEqDiff, H11Fs66]
    exact ⟨by rw [fromP, e1]; rfl, y1⟩
def ceE (m : MV) (x k : Int) : Int := if opn m [x] ≠ 0 then opn m [x] else fromE m (x.toNat, x.toNat) k
def ceP (m : MV) (x k : Int) : ByteArray := if ceE m x k = 0 then planS (m.ov.pl k.toNat (x.toNat, x.toNat)) else ⟨#[]⟩
theorem plan26 (m : MV) (x k : Int) (h : Eng.Heap) (hm : m.ok h) :
    CallsH Tryd.prog 26 #[m.val, .int .i64 x, .int .i64 k] h (fun v h' => v = .tuple #[.string (ceP m x k), .int .i64 (ceE m x k)] ∧ Ext h h') := by
  have x0 : Ext h (h.push (.cells #[.slice m.a m.casts.length m.ca, .slice m.b m.waits.length m.cb, .int .i64 m.lo, .int .i64 m.hi] 24)) := (Ext.refl h).push _
  (refine CallsH_of_exec Tryd.func26 rfl bod26 ?_; simp only [Tryd.ntmps26, Tryd.results26, coreS, stK_some, splice, Value.cells, Value.oneCell', Nat.reduceAdd, Nat.reduceSub, Nat.reduceMul, Nat.reduceLeDiff, Int.reduceEq, Nat.reduceEqDiff, H11Fs26])
  refine CallsH.mono (open56 m _ 1 1 [x] _ (hm.ext (x0.push _)) (intsV_one pn1) (by omega)) ?_
  rintro v h1 ⟨x1, h1'⟩
  have y1 := (x0.push _).trans x1
  rcases h1' with ⟨e0, b, rfl, ho, hbs⟩ | ⟨e0, rfl⟩
  · obtain ⟨gd, hin⟩ := opn_good e0
    rw [inB_one] at hin
    simp only [decide_eq_true_eq] at hin
    obtain ⟨i0, rfl⟩ : ∃ i : Nat, x = i := ⟨x.toNat, by omega⟩
    have h16 : m.casts.length ≤ 16 := by
      unfold opn at e0
      split at e0
      · rename_i hc; exact absurd e0 hc
      · rename_i hc; exact (chk_pos (Classical.not_not.1 hc)).1.2
    simp only [decide_true, Bool.not_true, splice, coreS, Value.cells, Value.oneCell', Nat.reduceAdd, Nat.reduceSub, Nat.reduceMul, Nat.reduceLeDiff, Int.reduceEq, Nat.reduceEqDiff, H11Fs26]
    refine CallsH.mono (planned66 m gd h16 b (i0, i0) k h1 ⟨by show i0 < _; have : m.ov.n = m.casts.length := rfl; omega, by show i0 < _; have : m.ov.n = m.casts.length := rfl; omega⟩ (hm.ext y1) ho) ?_
    rintro v h2 ⟨rfl, x2⟩
    have e1 : ceE m i0 k = fromE m (i0, i0) k := by rw [ceE, if_neg (by simpa using e0)]; rfl
    have e2 : ceP m i0 k = fromP m (i0, i0) k := by rw [ceP, fromP, e1]; rfl
    rw [e1, e2]
    simp only [coreS, Value.cells, Value.oneCell', Nat.reduceAdd, Nat.reduceSub, Nat.reduceMul, Nat.reduceLeDiff, Int.reduceEq, Nat.reduceEqDiff, H11Fs26]
    exact y1.trans x2
  · have e1 : ceE m x k = opn m [x] := by rw [ceE, if_pos e0]
    simp only [e0, decide_false, Bool.not_false, coreS, Value.cells, Value.oneCell', Nat.reduceAdd, Nat.reduceSub, Nat.reduceMul, Nat.reduceLeDiff, Int.reduceEq, Nat.reduceEqDiff, H11Fs26]
    exact ⟨by rw [ceP, e1, if_neg e0], y1⟩
theorem count_planS (p : List Bool) : (planS p).data.toList.count 119 + OV.casts p = p.length := by
  have h1 : (planS p).data.toList.count 119 = p.count false := by
    simp only [planS]
    induction p with
    | nil => rfl
    | cons b p ih => cases b <;> simp [ih]
  rw [h1, OV.casts]
  clear h1
  induction p with
  | nil => rfl
  | cons b p ih => cases b <;> simp only [List.count_cons, List.length_cons] <;> simp <;> omega
def ceW (m : MV) (x k : Int) : Int := if ceE m x k = 0 then (((m.ov.lw k.toNat (x.toNat, x.toNat)).getD 0 : Nat) : Int) else 0
theorem opn_in {m : MV} {x : Int} (h : opn m [x] = 0) : ∃ i : Nat, x = i ∧ i < m.casts.length ∧ m.casts.length ≤ 16 ∧ m.Good := by
  obtain ⟨gd, hin⟩ := opn_good h
  rw [inB_one] at hin
  simp only [decide_eq_true_eq] at hin
  have h16 : m.casts.length ≤ 16 ∧ 1 ≤ m.casts.length := by
    unfold opn at h
    split at h
    · rename_i hc; exact absurd h hc
    · rename_i hc
      have := (chk_pos (Classical.not_not.1 hc)).1
      exact ⟨this.2, this.1⟩
  exact ⟨x.toNat, by omega, by omega, h16.1, gd⟩
theorem ceE_zero {m : MV} {x k : Int} (h : ceE m x k = 0) : ∃ i j y : Nat, x = i ∧ k = j ∧ j ≤ 30 ∧ i < m.casts.length ∧ m.casts.length ≤ 16 ∧ m.Good ∧ m.ov.lw j (i, i) = some y := by
  unfold ceE at h
  split at h
  · rename_i h1; exact absurd h h1
  rename_i h1
  obtain ⟨i, rfl, hi, h16, gd⟩ := opn_in (Classical.not_not.1 h1)
  unfold fromE at h
  split at h
  · omega
  rename_i h2
  have h2 := Classical.not_not.1 h2
  split at h
  · rename_i h3
    obtain ⟨y, hy⟩ := Option.isSome_iff_exists.1 h3
    exact ⟨i, k.toNat, y, rfl, by omega, by omega, hi, h16, gd, hy⟩
  · omega
theorem count_ceP (m : MV) (x k : Int) : ((Lib.countByte (ceP m x k).data.toList 119 : Nat) : Int) = ceW m x k := by
  rw [ceP, ceW, Lib.countByte]
  by_cases h : ceE m x k = 0
  · rw [if_pos h, if_pos h]
    obtain ⟨i, j, y, rfl, rfl, hj, hi, h16, gd, hy⟩ := ceE_zero h
    have hin : m.ov.In (i, i) := ⟨hi, hi⟩
    have h1 := OV.pl_run gd.ok hin hy
    have h2 := count_planS (m.ov.pl j (i, i))
    simp only [Int.toNat_natCast, hy, Option.getD_some]
    omega
  · rw [if_neg h, if_neg h]; rfl
theorem fewest24 (m : MV) (x k : Int) (h : Eng.Heap) (hm : m.ok h) :
    CallsH Tryd.prog 24 #[m.val, .int .i64 x, .int .i64 k] h (fun v h' => v = .tuple #[.int .i64 (ceW m x k), .int .i64 (ceE m x k)] ∧ Ext h h') := by
  have x0 : Ext h (h.push (.cells #[.slice m.a m.casts.length m.ca, .slice m.b m.waits.length m.cb, .int .i64 m.lo, .int .i64 m.hi] 24)) := (Ext.refl h).push _
  (refine CallsH_of_exec Tryd.func24 rfl bod24 ?_; simp only [Tryd.ntmps24, Tryd.results24, coreS, stK_some, splice, Value.cells, Value.oneCell', Nat.reduceAdd, Nat.reduceSub, Nat.reduceMul, Nat.reduceLeDiff, Int.reduceEq, Nat.reduceEqDiff, H11Fs24])
  refine CallsH.mono (plan26 m x k _ (hm.ext x0)) ?_
  rintro v h1 ⟨rfl, x1⟩
  simp only [coreS, Value.cells, Value.oneCell', Nat.reduceAdd, Nat.reduceSub, Nat.reduceMul, Nat.reduceLeDiff, Int.reduceEq, Nat.reduceEqDiff, H11Fs24]
  refine CallsH.mono (count59 _ 119 h1) ?_
  rintro v h2 ⟨rfl, rfl⟩
  rw [count_ceP]
  simp only [coreS, Value.cells, Value.oneCell', Nat.reduceAdd, Nat.reduceSub, Nat.reduceMul, Nat.reduceLeDiff, Int.reduceEq, Nat.reduceEqDiff, H11Fs24]
  exact x0.trans x1
end Go.Proofs.YtafemfjhflfdeaaDoor
end
section
namespace Go.Proofs.YtafemfjhflfdeaaDoor
open Go Go.Proofs Go.Eng Tab
set_option maxRecDepth 100000
set_option linter.unusedSimpArgs false
set_option linter.unusedVariables false
set_option maxHeartbeats 4000000
set_option linter.defProp false
def enc : Option Nat → Int
  | none => -1
  | some x => x
structure St (h : Eng.Heap) (p : Nat) (mc : List Value) (q : Nat) (out : List Int) (r : Nat) (ys : List Int) : Prop where
  m : h[p]? = some (.cells mc.toArray 24)
  o : h[q]? = some (.cells (ints out).toArray 3)
  n : h[r]? = some (.cells (ints ys).toArray 3)
  pr : p ≠ r
  qr : q ≠ r
theorem St.ext {h h' : Eng.Heap} {p q r : Nat} {mc : List Value} {out ys : List Int} (s : St h p mc q out r ys) (x : Ext h h') : St h' p mc q out r ys := ⟨x.get s.m, x.get s.o, x.get s.n, s.pr, s.qr⟩
theorem St.upd {h h' : Eng.Heap} {p q r : Nat} {mc : List Value} {out ys ys' : List Int} (s : St h p mc q out r ys) (u : Upd h h' r) (hn : h'[r]? = some (.cells (ints ys').toArray 3)) : St h' p mc q out r ys' := ⟨u.get s.m s.pr, u.get s.o s.qr, hn, s.pr, s.qr⟩
theorem set_mid (xs : List Int) (n : Nat) (v w : Int) : (xs ++ v :: List.replicate n 0).set xs.length w = xs ++ w :: List.replicate n 0 := by simp
theorem gd_none {P : Program} {s : Tmp} {w : Bool} {op : Op} {ty : TypeId} {all rest : List Oper} {k : Cont} {dst : Option Tmp} {e : Env} {d : List Deferred} {h : Eng.Heap} : gd P undef s w op ty all rest k dst e d h = execR P all rest k (putE e dst undef) d h := gd_undef
end Go.Proofs.YtafemfjhflfdeaaDoor
end
section
set_option linter.unusedVariables false
set_option linter.unusedSimpArgs false
namespace Go.Eng
open Go
section yields
variable {P : Program} {l : Option Nat} {h : Heap} {e : Env} {d : List Deferred} {k : Cont}
def CallY (P : Program) (v : Value) (vs : List Value) (h : Heap) (K : Value → Heap → Prop) : Prop :=
  ∀ (er : Env) (f : Operand) (xs : Array Operand) (ats : Array TypeId) (ty : TypeId), ev er f = v → (xs.map (ev er)).toList = vs → opSem P (.call ⟨.value f, xs, ats⟩) ty er h K
theorem CallY.run {v : Value} {vs : List Value} {K K' : Value → Heap → Prop} (H : CallY P v vs h K) {er : Env} {f : Operand} {xs : Array Operand} {ats : Array TypeId} {ty : TypeId} (hf : ev er f = v) (hx : (xs.map (ev er)).toList = vs)
    (hk : ∀ v h, K v h → K' v h) : opSem P (.call ⟨.value f, xs, ats⟩) ty er h K' := opSem_mono hk (H er f xs ats ty hf hx)
theorem callV_yield {lo : Nat} {first caps args : Array Value} {K : Value → Heap → Prop} {F : Prop} : callV P (.func (.yield lo) first caps) args h K F = F := by unfold callV; rfl
theorem yrun_getLoop {w : World} {r : Nat} {rec : Loop} (hr : w.heap[r]? = some (.loop rec)) : (Instr.getLoop r).run P w = .ok rec w := by
  simp [Instr.getLoop, getObj, Sem.run, hr, Result.andThen]
theorem yrun_setLoop {w : World} {r : Nat} {rec : Loop} (hr : w.heap[r]? = some (.loop rec)) (o : Obj) : (setObj r o).run P w = .ok () { w with heap := w.heap.setIfInBounds r o } := by
  simp [setObj, Sem.run, hr]
theorem yrun_yield {w : World} {r : Nat} {rec : Loop} (hr : w.heap[r]? = some (.loop rec)) {args : Array Value} (hs : args.size = rec.params.size) :
    (Instr.yield r args).run P w = .ok (.round r rec.fn ((rec.params.zip args).foldl (fun tmps (x : Tmp × Value) => tmps.setIfInBounds x.1 x.2) rec.tmps) rec.assign rec.body) w := by
  simp [Instr.yield, yrun_getLoop hr, Result.andThen, hs]
theorem yrun_begin {w : World} {r : Nat} {rec : Loop} (hr : w.heap[r]? = some (.loop rec)) (hs : rec.state = .ready) :
    (Instr.beginRound r).run P w = .ok () { w with heap := w.heap.setIfInBounds r (.loop { rec with state := .busy }) } := by
  simp [Instr.beginRound, yrun_getLoop hr, yrun_setLoop hr, Result.andThen, hs]
theorem yrun_end {w : World} {r : Nat} {rec : Loop} (hr : w.heap[r]? = some (.loop rec)) (j : Option Code) :
    (Instr.endRound r j).run P w = .ok (.bool j.isNone) { w with heap := w.heap.setIfInBounds r (.loop { rec with state := if j.isNone then .ready else .done, pending := j }) } := by
  simp [Instr.endRound, yrun_getLoop hr, yrun_setLoop hr, Result.andThen]
theorem yrun_endLoop {w : World} {r : Nat} {rec : Loop} (hr : w.heap[r]? = some (.loop rec)) (hs : rec.state ≠ .busy) :
    (Instr.endLoop r).run P w = .ok rec.pending { w with heap := w.heap.setIfInBounds r (.loop { rec with state := .exhausted }) } := by
  have : (rec.state == LoopState.busy) = false := by cases hst : rec.state <;> first | rfl | exact absurd hst hs
  simp [Instr.endLoop, yrun_getLoop hr, yrun_setLoop hr, Result.andThen, this]
  intro hh; exact absurd hh hs
theorem yfoldl_arr : ∀ (l : List (Tmp × Value)) (a : Array Value), (l.foldl (fun tmps (x : Tmp × Value) => tmps.setIfInBounds x.1 x.2) a).toList = l.foldl (fun er (x : Tmp × Value) => er.set x.1 x.2) a.toList
  | [], a => rfl
  | x :: l, a => by
    simp only [List.foldl_cons]
    rw [yfoldl_arr l]
    simp
theorem yrun_enter {w : World} {fn : FuncId} {tmps : Array Value} {ps : Array Tmp} {a b : Code} : (Instr.enterLoop fn tmps ps a b none).run P w = .ok (w.heap.size + 1, [{ target := .collected w.heap.size, args := #[] }])
    { w with heap := (w.heap.push (.deferred (some []))).push (.loop { state := .ready, pending := none, fn, tmps, params := ps, assign := a, body := b, defers := w.heap.size }) } := by
  simp [Instr.enterLoop, newObj, Sem.run, Result.andThen]
  exact ⟨rfl, rfl, rfl⟩
def binds : List Tmp → List Value → Env → Env
  | p :: ps, v :: vs, e => binds ps vs (e.set p v)
  | _, _, e => e
theorem binds_cons {p : Tmp} {ps : List Tmp} {v : Value} {vs : List Value} {e : Env} : binds (p :: ps) (v :: vs) e = binds ps vs (e.set p v) := eqi rfl
theorem binds_nil {vs : List Value} {e : Env} : binds [] vs e = e := by simp [binds]
theorem binds_eq : ∀ (ps : List Tmp) (vs : List Value) (e : Env), binds ps vs e = (ps.zip vs).foldl (fun er (x : Tmp × Value) => er.set x.1 x.2) e
  | [], vs, e => by simp [binds]
  | p :: ps, [], e => by simp [binds]
  | p :: ps, v :: vs, e => by simp [binds, binds_eq ps vs]
def endY (lo : Nat) (K : Value → Heap → Prop) : Cont := fun x _ _ h => ∃ rec, h[lo]? = some (.loop rec) ∧ match x with
  | .normal => K (.bool true) (h.setIfInBounds lo (.loop { rec with state := .ready, pending := none }))
  | .ret => K (.bool false) (h.setIfInBounds lo (.loop { rec with state := .done, pending := some .ret }))
  | .exit i => K (.bool false) (h.setIfInBounds lo (.loop { rec with state := .done, pending := some (.exit i) }))
  | .goto i => K (.bool false) (h.setIfInBounds lo (.loop { rec with state := .done, pending := some (.goto i) }))
  | _ => False
def asgY (P : Program) (lo : Nat) (body : Code) (K : Value → Heap → Prop) : Cont := fun x e d h => x = .normal ∧ ∃ rec, h[lo]? = some (.loop rec) ∧ rec.state = .ready ∧
  exec (some lo) P body (endY lo K) e d (h.setIfInBounds lo (.loop { rec with state := .busy }))
theorem callY_yield {lo : Nat} {rec : Loop} {vs : List Value} {K : Value → Heap → Prop} (hr : h[lo]? = some (.loop rec)) (hsz : vs.length = rec.params.size)
    (H : exec (some lo) P rec.assign (asgY P lo rec.body K) (binds rec.params.toList vs rec.tmps.toList) [] h) : CallY P (.func (.yield lo) #[] #[]) vs h K := by
  intro er f xs ats ty hf hx
  unfold opSem
  refine And.intro rfl fun w hw => ?_
  subst hw
  have hargs : xs.map (ev er) = vs.toArray := by apply Array.toList_inj.1; simpa using hx
  have hrun : (execOp (ev er) { dst := none, op := .call ⟨.value f, xs, ats⟩, type := ty, pos := "", after := #[], guard := none }).run P w = .ok (.round lo rec.fn ((rec.params.zip vs.toArray).foldl (fun tmps (x : Tmp × Value) => tmps.setIfInBounds x.1 x.2) rec.tmps) rec.assign rec.body) w := by
    have := yrun_yield (P := P) hr (args := vs.toArray) (by simpa using hsz)
    simp only [execOp, resolve, hf, Deferred.ofValue, invoke, Sem.run_bind, Sem.run_pure, Result.andThen_ok, hargs, Array.empty_append, this]
  rw [hrun]
  refine ⟨Eng.Rest.refl w, roundIn_of_wpIn trivial ?_⟩
  have ha := exec_sound _ _ _ _ _ H
  unfold WP at ha
  have ha := ha w rfl
  have htm : (binds rec.params.toList vs rec.tmps.toList).toArray = ((rec.params.zip vs.toArray).foldl (fun tmps (x : Tmp × Value) => tmps.setIfInBounds x.1 x.2) rec.tmps) := by
    apply Array.toList_inj.1
    rw [← Array.foldl_toList, yfoldl_arr, binds_eq]
    simp
  rw [← htm]
  refine wpIn_mono ha ?_
  rintro x1 a1 w1 ⟨⟨hx1, rec1, b1, b2, b3⟩, hr1⟩
  subst hx1
  refine ⟨_, yrun_begin (P := P) b1 b2, ?_⟩
  have hb := exec_sound _ _ _ _ _ b3
  unfold WP at hb
  have hb := hb { w1 with heap := w1.heap.setIfInBounds lo (.loop { rec1 with state := .busy }) } rfl
  rw [toList_act] at hb
  refine wpIn_mono hb ?_
  rintro x2 a2 w2 ⟨⟨rec2, c1, c2⟩, hr2⟩
  have hrest : Eng.Rest w w2 := hr1.trans ⟨hr2.os, hr2.tape, hr2.output⟩
  cases x2 with
  | normal => exact ⟨_, _, yrun_end (P := P) c1 none, _, rfl, c2, hrest.trans ⟨rfl, rfl, rfl⟩⟩
  | ret => exact ⟨_, _, yrun_end (P := P) c1 (some .ret), _, rfl, c2, hrest.trans ⟨rfl, rfl, rfl⟩⟩
  | exit i => exact ⟨_, _, yrun_end (P := P) c1 (some (.exit i)), _, rfl, c2, hrest.trans ⟨rfl, rfl, rfl⟩⟩
  | goto i => exact ⟨_, _, yrun_end (P := P) c1 (some (.goto i)), _, rfl, c2, hrest.trans ⟨rfl, rfl, rfl⟩⟩
  | _ => exact c2.elim
def mkD (r : Nat) : Deferred := { target := .collected r, args := #[] }
def endF (l : Option Nat) (P : Program) (lo : Nat) (k : Cont) (e : Env) (d : List Deferred) (h : Heap) : Prop := ∃ rec, h[lo]? = some (.loop rec) ∧ rec.state ≠ .busy ∧ (match rec.pending with
  | none => k .normal e d (h.setIfInBounds lo (.loop { rec with state := .exhausted }))
  | some j => exec l P j k e d (h.setIfInBounds lo (.loop { rec with state := .exhausted })))
theorem WP_range {f : Operand} {ps : Array Tmp} {a b : Code} {gf : FuncId} {first caps : Array Value} (hf : ev e f = .func (.func gf) first caps)
    (H : ∀ fn : FuncId, CallsH P gf (first ++ #[.func (.yield (h.size + 1)) #[] #[]] ++ caps) ((h.push (.deferred (some []))).push (.loop { state := .ready, pending := none, fn, tmps := e.toArray, params := ps, assign := a, body := b, defers := h.size }))
      (fun _ h2 => endF none P (h.size + 1) k e (mkD h.size :: d) h2)) : WP none P (.rangeFunc f ps a b) k e d h := by
  unfold WP
  intro w hw
  subst hw
  refine wpIn_rangeFunc fun fn _ => ?_
  have hcl := H fn
  unfold CallsH at hcl
  obtain ⟨hbod, hcl⟩ := hcl
  obtain ⟨W1, hW1⟩ : ∃ W1 : World, W1 = { w with heap := (w.heap.push (.deferred (some []))).push (.loop { state := .ready, pending := none, fn, tmps := e.toArray, params := ps, assign := a, body := b, defers := w.heap.size }) } := ⟨_, rfl⟩
  have hcw := hcl W1 (by rw [hW1])
  unfold CallsW at hcw
  refine ⟨w.heap.size + 1, [mkD w.heap.size], W1, ⟨.fn (.func gf) caps, first ++ #[.func (.yield (w.heap.size + 1)) #[] #[]]⟩, W1, gf, first ++ #[.func (.yield (w.heap.size + 1)) #[] #[]] ++ caps, W1, ?_, ?_, fun _ _ => trivial, ?_, fun hh => by simp [fen_depth] at hh, callsIn_of none ?_⟩
  · rw [hW1]
    exact yrun_enter
  · have hev : ev e (.const (.func (.yield (w.heap.size + 1)) #[] #[])) = .func (.yield (w.heap.size + 1)) #[] #[] := rfl
    rw [eval_ev]
    simp only [resolve, hf, Deferred.ofValue, Sem.run_pure, List.map_toArray, List.map_cons, List.map_nil, hev]
  · show (callFunc gf _).run P _ = _
    exact call_run hbod _
  · refine Calls.mono hcw ?_
    rintro e' w3 ⟨v, rfl, ⟨rec, q1, q2, q3⟩, hr3⟩
    have hr3 : Eng.Rest w w3 := by rw [hW1] at hr3; exact ⟨hr3.os, hr3.tape, hr3.output⟩
    refine ⟨_, _, yrun_endLoop (P := P) q1 q2, ?_⟩
    cases hp : rec.pending with
    | none =>
      rw [hp] at q3
      exact ⟨q3, ⟨hr3.os, hr3.tape, hr3.output⟩⟩
    | some j =>
      rw [hp] at q3
      have hb := exec_sound _ _ _ _ _ q3
      unfold WP at hb
      rw [← hp] at hb
      have hb := hb { w3 with heap := w3.heap.setIfInBounds (w.heap.size + 1) (.loop { rec with state := .exhausted }) } rfl
      rw [hp] at hb
      refine wpIn_mono hb ?_
      rintro x a' w4 ⟨c1, c2⟩
      exact ⟨c1, hr3.trans ⟨c2.os, c2.tape, c2.output⟩⟩
theorem ystepR_scope {b : Frame} {a : Act} {k : List Item} {cs : List Frame} {w : World} {c : Code} : Go.step P (lone (b.atR a (.code (.scope c) :: k)) cs w) = .next (lone (b.atR a (.code c :: .inScope c :: k)) cs w) :=
  step_lone_go (by simp [stepG, stepG.exec, Frame.atR])
theorem ystepR_inScope {b : Frame} {a : Act} {k : List Item} {cs : List Frame} {w : World} {c : Code} : Go.step P (lone (b.atR a (.inScope c :: k)) cs w) = .next (lone (b.atR a k) cs w) :=
  step_lone_go (by simp [stepG, stepG.exec, Frame.atR])
theorem ywpIn_scope {F : Fence} {n : Nat} {Q : Exit → Act → World → Prop} {a : Act} {w : World} {c : Code} (hc : c.wpIn F n P (fun x a w => (∀ i, x ≠ .goto i) ∧ Q x a w) a w) : (Code.scope c).wpIn F n P Q a w := by
  intro b k cs hro hb hr
  have h0 : (lone (b.atR a (.code (.scope c) :: k)) cs w).fenced P F := fenced_calm hb hr rfl
  obtain ⟨e, a₁, w₁, hq, harr⟩ := hc b (.inScope c :: k) cs hro hb hr
  cases e with
  | normal => exact ⟨.normal, a₁, w₁, hq.2, .head h0 ystepR_scope (StepsIn.trans harr (.one (fenced_calm hb hr rfl) ystepR_inScope))⟩
  | exit id =>
    have hx : exitTo id (.inScope c :: k) = exitTo id k := by simp [exitTo]
    exact ⟨.exit id, a₁, w₁, hq.2, fun k' hk => .head h0 ystepR_scope (harr.1 k' (by rw [hx]; exact hk)),
      fun hr' hk => let ⟨k₁, h1, h2⟩ := harr.2 hr' (by rw [hx]; exact hk); ⟨k₁, h1, .head h0 ystepR_scope h2⟩⟩
  | goto l => exact absurd rfl (hq.1 l)
  | ret => exact ⟨_, a₁, w₁, hq.2, .of_steps (.one h0 ystepR_scope) harr⟩
  | panic ch => exact ⟨_, a₁, w₁, hq.2, .of_steps (.one h0 ystepR_scope) harr⟩
  | outgrown => exact ⟨_, a₁, w₁, hq.2, .of_steps (.one h0 ystepR_scope) harr⟩
theorem WP_range' {f : Operand} {ps : Array Tmp} {a b : Code} {gf : FuncId} {first caps : Array Value} (hf : ev e f = .func (.func gf) first caps)
    (H : ∀ R : Loop, R.state = .ready → R.pending = none → R.tmps = e.toArray → R.params = ps → R.assign = a → R.body = b → R.defers = h.size →
      CallsH P gf (first ++ #[.func (.yield (h.size + 1)) #[] #[]] ++ caps) ((h.push (.deferred (some []))).push (.loop R)) (fun _ h2 => endF none P (h.size + 1) k e (mkD h.size :: d) h2)) : WP none P (.rangeFunc f ps a b) k e d h :=
  WP_range hf fun fn => H _ rfl rfl rfl rfl rfl rfl rfl
theorem Loop.back {R : Loop} (h1 : R.state = .ready) (h2 : R.pending = none) : ({ ({ R with state := .busy } : Loop) with state := .ready, pending := none } : Loop) = R := by
  cases R; simp_all
def scopeK (k : Cont) : Cont := fun x e d h => (∀ i, x ≠ .goto i) ∧ k x e d h
theorem WP_scope {c : Code} (H : exec l P c (scopeK k) e d h) : WP l P (.scope c) k e d h := by
  have hb := exec_sound _ _ _ _ _ H
  unfold WP at *
  intro w hw
  refine ywpIn_scope (wpIn_mono (hb w hw) ?_)
  rintro x a' w' ⟨⟨c1, c2⟩, hr⟩
  exact ⟨c1, c2, hr⟩
theorem exec_scope {c : Code} (H : exec l P c (scopeK k) e d h) : exec l P (.scope c) k e d h := by
  unfold exec
  exact WP_scope H
theorem scopeK_normal : scopeK k .normal e d h = k .normal e d h := eqi (propext ⟨fun H => H.2, fun H => ⟨fun _ hi => (by cases hi), H⟩⟩)
theorem scopeK_ret : scopeK k .ret e d h = k .ret e d h := eqi (propext ⟨fun H => H.2, fun H => ⟨fun _ hi => (by cases hi), H⟩⟩)
theorem scopeK_exit {i : Nat} : scopeK k (.exit i) e d h = k (.exit i) e d h := eqi (propext ⟨fun H => H.2, fun H => ⟨fun _ hi => (by cases hi), H⟩⟩)
theorem asgY_normal {lo : Nat} {body : Code} {K : Value → Heap → Prop} {rec : Loop} (hr : h[lo]? = some (.loop rec)) (hs : rec.state = .ready) (H : exec (some lo) P body (endY lo K) e d (h.setIfInBounds lo (.loop { rec with state := .busy }))) : asgY P lo body K .normal e d h :=
  ⟨rfl, rec, hr, hs, H⟩
theorem Upd.set {b : Nat} {o : Obj} : Upd h (h.setIfInBounds b o) b := ⟨by simp, fun b' hb => Array.getElem?_setIfInBounds_ne (Ne.symm hb)⟩
theorem set_get {b : Nat} {o : Obj} (hb : b < h.size) : (h.setIfInBounds b o)[b]? = some o := by simp [hb]
def endI (lo : Nat) (o : Obj) (K : Heap → Prop) (Br : Code → Heap → Prop) : Cont := fun x _ _ h => h[lo]? = some o ∧ match x with
  | .normal => K h
  | .ret => Br .ret h
  | .exit i => Br (.exit i) h
  | _ => False
def asgI (P : Program) (lo : Nat) (o : Obj) (b : Code) (K : Heap → Prop) (Br : Code → Heap → Prop) : Cont := fun x e d h => x = .normal ∧ h[lo]? = some o ∧
  ∀ h2 o2, Upd h h2 lo → h2[lo]? = some o2 → exec (some lo) P b (endI lo o2 K Br) e d h2
theorem endI_normal {lo : Nat} {o : Obj} {K : Heap → Prop} {Br : Code → Heap → Prop} : endI lo o K Br .normal e d h = (h[lo]? = some o ∧ K h) := eqi rfl
theorem endI_ret {lo : Nat} {o : Obj} {K : Heap → Prop} {Br : Code → Heap → Prop} : endI lo o K Br .ret e d h = (h[lo]? = some o ∧ Br .ret h) := eqi rfl
theorem asgI_normal {lo : Nat} {o : Obj} {b : Code} {K : Heap → Prop} {Br : Code → Heap → Prop} : asgI P lo o b K Br .normal e d h = (h[lo]? = some o ∧
  ∀ h2 o2, Upd h h2 lo → h2[lo]? = some o2 → exec (some lo) P b (endI lo o2 K Br) e d h2) := eqi (propext ⟨fun H => H.2, fun H => ⟨rfl, H⟩⟩)
end yields
end Go.Eng
end
