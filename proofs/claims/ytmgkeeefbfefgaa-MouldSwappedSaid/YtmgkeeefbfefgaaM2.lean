/- Walks: CheckBook, of the program and of the reference; open. -/
import Derived.Test.YtmgkeeefbfefgaaM1
namespace Go.Proofs.Ytmgkeeefbfefgaa
open Go Go.Proofs Go.Eng Tab
set_option maxRecDepth 100000
set_option linter.unusedSimpArgs false
set_option linter.unusedVariables false
set_option maxHeartbeats 1000000
set_option linter.defProp false
def M2Fs22 := (And.intro (And.intro (And.intro @agg22 (And.intro @agg3 @by3)) (And.intro @fo24_0 (And.intro @fo24_1 @fo24_2))) (And.intro (And.intro @inf22 (And.intro @inf3 @sz22)) (And.intro (And.intro @sz3 @zero3) (And.intro @Try.underlying22 @Try.underlying25))))
def M2Fs49 := (And.intro (And.intro @agg24 (And.intro @fps99_0 @fps99_1)) (And.intro (And.intro @inf24 @okf99) (And.intro @sz24 @zero99)))
def M2Fs59 := (And.intro (And.intro (And.intro @agg3 @by3) (And.intro @fo24_0 (And.intro @fo24_1 @fo58_0))) (And.intro (And.intro @fo58_1 @inf3) (And.intro @sz3 (And.intro @zero3 @Try.underlying25))))
def M2Fs88 := (And.intro (And.intro @agg58 @by58) (And.intro @inf58 (And.intro @sz58 @Try.underlying22)))
def idxW (p : Wn → Bool) (es : List Wn) : Int := match es.findIdx? p with | some i => i | none => -1
theorem idxW_none {p : Wn → Bool} {es : List Wn} (H : ∀ e ∈ es, p e = false) : idxW p es = -1 := by
  have : es.findIdx? p = none := by rw [List.findIdx?_eq_none_iff]; exact fun x hx => by simp [H x hx]
  simp [idxW, this]
theorem idxW_some {p : Wn → Bool} {es : List Wn} {i : Nat} (hi : i < es.length) (H : ∀ j < i, p (wAt es j) = false) (hp : p (wAt es i) = true) : idxW p es = i := by
  have : es.findIdx? p = some i := by
    rw [List.findIdx?_eq_some_iff_getElem]
    refine ⟨hi, by rw [← wAt_eq hi]; exact hp, fun j hj => ?_⟩
    have hj' : j < es.length := by omega
    have := H j hj
    rw [wAt_eq hj'] at this
    simp [this]
  simp [idxW, this]
theorem idxW_any (p : Wn → Bool) (es : List Wn) : decide (0 ≤ idxW p es) = es.any p := by
  unfold idxW
  cases hf : es.findIdx? p with
  | none =>
    rw [List.findIdx?_eq_none_iff] at hf
    have : es.any p = false := by rw [List.any_eq_false]; intro x hx; simp [hf x hx]
    simp [this]
  | some i =>
    rw [List.findIdx?_eq_some_iff_getElem] at hf
    obtain ⟨hi, hp, _⟩ := hf
    have : es.any p = true := by rw [List.any_eq_true]; exact ⟨es[i], List.getElem_mem hi, hp⟩
    simp [this]
theorem mem_wAt {es : List Wn} {e : Wn} (h : e ∈ es) : ∃ i, i < es.length ∧ wAt es i = e := by
  obtain ⟨i, hi, rfl⟩ := List.getElem_of_mem h
  exact ⟨i, hi, wAt_eq hi⟩
theorem indexFunc88 (a : Option Addr) (n c : Nat) (es : List Wn) (q : FuncId) (caps : Array Value) (p : Wn → Bool) (h : Eng.Heap) (hr : Row h a (wsV es)) (hn : n = es.length) (hl : n ≤ 1000000)
    (hq : ∀ e ∈ es, ∀ h', Ext h h' → CallsH Try.prog q (#[] ++ #[.agg #[.int .i64 e.s, .int .i64 e.m]] ++ caps) h' (fun v h'' => v = .bool (p e) ∧ Ext h' h'')) :
    CallsH Try.prog 88 #[.slice a n c, .func (.func q) #[] caps] h (fun v h' => v = .int .i64 (idxW p es) ∧ Ext h h') := by
  (refine CallsH_of_exec Try.func88 rfl bod88 ?_; simp only [Try.ntmps88, Try.results88, coreS, stK_some, splice, Value.cells, Value.oneCell', Nat.reduceAdd, Nat.reduceSub, Nat.reduceMul, Nat.reduceLeDiff, Int.reduceEq, Nat.reduceEqDiff, M2Fs88])
  refine WP_loopI [4, 5, 8, 9, 10, 11, 12, 13, 14, 15, 16, 17, 18] (fun g h' => ∃ i : Nat, i ≤ n ∧ g 8 = .int .i64 i ∧ (∀ j < i, p (wAt es j) = false) ∧ Ext h h') (fun g _ => match g 8 with | .int _ m => n - m.toNat | _ => 0) ?_ ?_
  · exact ⟨0, by omega, rfl, by omega, Ext.refl h⟩
  · rintro g h' ⟨i, hin, hg8, hno, hx⟩
    by_cases hi : i < es.length
    · have hsm : a.isSome = true := rowW_some hr hi
      have hc1 := rowW (hr.ext hx) hi
      simp only [hg8, hc1, coreS, Value.cells, Value.oneCell', Nat.reduceAdd, Nat.reduceSub, Nat.reduceMul, Nat.reduceLeDiff, Int.reduceEq, Nat.reduceEqDiff, M2Fs88]
      refine ⟨fun hlt => ⟨⟨by omega, by omega⟩, hsm, ?_⟩, fun hge => absurd hge (by omega)⟩
      refine CallsH.mono (hq _ (wAt_mem hi) _ hx) ?_
      rintro v h2 ⟨rfl, hx2⟩
      cases hp : p (wAt es i)
      · simp only [coreS, Value.cells, Value.oneCell', Nat.reduceAdd, Nat.reduceSub, Nat.reduceMul, Nat.reduceLeDiff, Int.reduceEq, Nat.reduceEqDiff, M2Fs88]
        refine ⟨by rw [inK_i64]; omega, roundK_mk (by kernel_rfl) ⟨i + 1, by omega, rfl, fun j hj => ?_, hx.trans hx2⟩ ?_⟩
        · by_cases hji : j = i
          · subst hji; exact hp
          · exact hno j (by omega)
        · show n - ((i : Int) + 1).toNat < n - (i : Int).toNat
          omega
      · simp only [coreS, Value.cells, Value.oneCell', Nat.reduceAdd, Nat.reduceSub, Nat.reduceMul, Nat.reduceLeDiff, Int.reduceEq, Nat.reduceEqDiff, M2Fs88]
        exact ⟨by rw [idxW_some hi hno hp], hx.trans hx2⟩
    · simp only [hg8, coreS, Value.cells, Value.oneCell', Nat.reduceAdd, Nat.reduceSub, Nat.reduceMul, Nat.reduceLeDiff, Int.reduceEq, Nat.reduceEqDiff, M2Fs88]
      refine ⟨fun hlt => absurd hlt (by omega), fun hge => ?_⟩
      exact ⟨by rw [idxW_none fun e he => by obtain ⟨j, hj, rfl⟩ := mem_wAt he; exact hno j (by omega)], hx⟩
theorem containsFunc60 (a : Option Addr) (n c : Nat) (es : List Wn) (q : FuncId) (caps : Array Value) (p : Wn → Bool) (h : Eng.Heap) (hr : Row h a (wsV es)) (hn : n = es.length) (hl : n ≤ 1000000)
    (hq : ∀ e ∈ es, ∀ h', Ext h h' → CallsH Try.prog q (#[] ++ #[.agg #[.int .i64 e.s, .int .i64 e.m]] ++ caps) h' (fun v h'' => v = .bool (p e) ∧ Ext h' h'')) :
    CallsH Try.prog 60 #[.slice a n c, .func (.func q) #[] caps] h (fun v h' => v = .bool (es.any p) ∧ Ext h h') := by
  (refine CallsH_of_exec Try.func60 rfl bod60 ?_; simp only [Try.ntmps60, Try.results60, coreS, stK_some, splice, Value.cells, Value.oneCell', Nat.reduceAdd, Nat.reduceSub, Nat.reduceMul, Nat.reduceLeDiff, Int.reduceEq, Nat.reduceEqDiff])
  refine CallsH.mono (indexFunc88 a n c es q caps p h hr hn hl hq) ?_
  rintro v h2 ⟨rfl, hx⟩
  simp only [coreS, Value.cells, Value.oneCell', Nat.reduceAdd, Nat.reduceSub, Nat.reduceMul, Nat.reduceLeDiff, Int.reduceEq, Nat.reduceEqDiff]
  refine ⟨?_, hx⟩
  congr 1
  exact idxW_any p es
theorem stray59 (S M : Int) (sl : Value) (w : Wn) (b : Nat) (h : Eng.Heap) (hb : h[b]? = some (.cells #[.int .i64 S, .int .i64 M, sl] 24)) (hS : 1 ≤ S ∧ S ≤ 6) (hM : 1 ≤ M ∧ M ≤ 6) :
    CallsH Try.prog 59 (#[] ++ #[.agg #[.int .i64 w.s, .int .i64 w.m]] ++ #[.pointer (some ⟨b, 0, none⟩)]) h (fun v h' => v = .bool (!decide (okW S M w)) ∧ Ext h h') := by
  simp only [Array.append_empty, Array.empty_append, List.append_toArray, List.cons_append, List.nil_append]
  (refine CallsH_of_exec Try.func59 rfl bod59 ?_; simp only [Try.ntmps59, Try.results59, coreS, stK_some, splice, Value.cells, Value.oneCell', Nat.reduceAdd, Nat.reduceSub, Nat.reduceMul, Nat.reduceLeDiff, Int.reduceEq, Nat.reduceEqDiff, M2Fs59])
  have hne : ¬ (b = h.size) := by have := lt_of_get hb; omega
  simp only [hne, hb, if_false, splice, coreS, Value.cells, Value.oneCell', Nat.reduceAdd, Nat.reduceSub, Nat.reduceMul, Nat.reduceLeDiff, Int.reduceEq, Nat.reduceEqDiff, M2Fs59]
  refine ⟨by rw [inK_i64]; omega, ?_⟩
  refine CallsH.mono (within52 0 (S - 1) _ 1 1 [w.s] _ (intsV_one pn1) (by omega)) ?_
  rintro v h1 ⟨rfl, x1⟩
  have hb0 := x1.get pn0
  have hb1 := x1.of_push.of_push.get hb
  have y1 := x1.of_push.of_push
  by_cases hs : 0 ≤ w.s ∧ w.s ≤ S - 1
  · simp only [inB_one, hs, hb0, hb1, and_self, decide_true, Bool.not_true, splice, coreS, Value.cells, Value.oneCell', Nat.reduceAdd, Nat.reduceSub, Nat.reduceMul, Nat.reduceLeDiff, Int.reduceEq, Nat.reduceEqDiff, M2Fs59]
    refine ⟨by rw [inK_i64]; omega, ?_⟩
    refine CallsH.mono (within52 0 (M - 1) _ 1 1 [w.m] _ (intsV_one push_new) (by omega)) ?_
    rintro v h2 ⟨rfl, x2⟩
    have y2 := y1.trans x2.of_push
    simp only [inB_one, coreS, Value.cells, Value.oneCell', Nat.reduceAdd, Nat.reduceSub, Nat.reduceMul, Nat.reduceLeDiff, Int.reduceEq, Nat.reduceEqDiff, M2Fs59]
    refine ⟨?_, y2⟩
    congr 2
    rw [decide_eq_decide]
    unfold okW
    omega
  · have : ¬ okW S M w := by unfold okW; omega
    simp only [inB_one, hs, this, decide_false, Bool.not_false, coreS, Value.cells, Value.oneCell', Nat.reduceAdd, Nat.reduceSub, Nat.reduceMul, Nat.reduceLeDiff, Int.reduceEq, Nat.reduceEqDiff, M2Fs59]
    exact y1
theorem check22 (S M : Int) (a : Option Addr) (n c : Nat) (ws : List Wn) (h : Eng.Heap) (hr : Row h a (wsV ws)) (hn : n = ws.length) (hl : n ≤ 1000000) :
    CallsH Try.prog 22 #[.agg #[.int .i64 S, .int .i64 M, .slice a n c]] h (fun v h' => v = .int .i64 (chk S M ws) ∧ Ext h h') := by
  (refine CallsH_of_exec Try.func22 rfl bod22 ?_; simp only [Try.ntmps22, Try.results22, coreS, stK_some, splice, Value.cells, Value.oneCell', Nat.reduceAdd, Nat.reduceSub, Nat.reduceMul, Nat.reduceLeDiff, Int.reduceEq, Nat.reduceEqDiff, M2Fs22])
  refine CallsH.mono (within52 1 6 _ 1 1 [S] _ (intsV_one pn1) (by omega)) ?_
  rintro v h1 ⟨rfl, x1⟩
  have hb1 := x1.get pn0
  have y1 := x1.of_push.of_push
  by_cases hs : 1 ≤ S ∧ S ≤ 6
  · simp only [inB_one, hs, hb1, and_self, decide_true, Bool.not_true, splice, coreS, Value.cells, Value.oneCell', Nat.reduceAdd, Nat.reduceSub, Nat.reduceMul, Nat.reduceLeDiff, Int.reduceEq, Nat.reduceEqDiff, M2Fs22]
    refine CallsH.mono (within52 1 6 _ 1 1 [M] _ (intsV_one push_new) (by omega)) ?_
    rintro v h2 ⟨rfl, x2⟩
    have hb2 := x2.of_push.get hb1
    have y2 := y1.trans x2.of_push
    by_cases hm : 1 ≤ M ∧ M ≤ 6
    · by_cases hg : 14 < (n : Int)
      · have hc : chk S M ws = 6 := by unfold chk; rw [if_pos (.inr (.inr (by omega)))]
        simp only [inB_one, hm, hb2, hg, hc, and_self, decide_true, Bool.not_true, splice, coreS, Value.cells, Value.oneCell', Nat.reduceAdd, Nat.reduceSub, Nat.reduceMul, Nat.reduceLeDiff, Int.reduceEq, Nat.reduceEqDiff, M2Fs22]
        exact y2
      · simp only [inB_one, hm, hb2, hg, and_self, decide_true, decide_false, Bool.not_true, splice, coreS, Value.cells, Value.oneCell', Nat.reduceAdd, Nat.reduceSub, Nat.reduceMul, Nat.reduceLeDiff, Int.reduceEq, Nat.reduceEqDiff, M2Fs22]
        refine CallsH.mono (containsFunc60 a n c ws 59 _ (fun e => !decide (okW S M e)) h2 (hr.ext y2) hn hl fun e _ h' x' => stray59 S M _ e _ h' (x'.get hb2) hs hm) ?_
        rintro v h3 ⟨rfl, x3⟩
        have y3 := y2.trans x3
        by_cases hall : ∀ e ∈ ws, okW S M e
        · have hany : (ws.any fun e => !decide (okW S M e)) = false := by
            rw [List.any_eq_false]; intro e he; simp [hall e he]
          have hc : chk S M ws = 0 := by unfold chk; rw [if_neg (by omega), if_pos hall]
          simp only [hany, hc, coreS, Value.cells, Value.oneCell', Nat.reduceAdd, Nat.reduceSub, Nat.reduceMul, Nat.reduceLeDiff, Int.reduceEq, Nat.reduceEqDiff, M2Fs22]
          exact y3
        · have hany : (ws.any fun e => !decide (okW S M e)) = true := by
            rw [List.any_eq_true]
            simp only [Classical.not_forall] at hall
            obtain ⟨e, he, h1⟩ := hall
            exact ⟨e, he, by simp [h1]⟩
          have hc : chk S M ws = 3 := by unfold chk; rw [if_neg (by omega), if_neg hall]
          simp only [hany, hc, coreS, Value.cells, Value.oneCell', Nat.reduceAdd, Nat.reduceSub, Nat.reduceMul, Nat.reduceLeDiff, Int.reduceEq, Nat.reduceEqDiff, M2Fs22]
          exact y3
    · have hc : chk S M ws = 6 := by unfold chk; rw [if_pos (.inr (.inl hm))]
      simp only [inB_one, hm, hc, decide_false, Bool.not_false, coreS, Value.cells, Value.oneCell', Nat.reduceAdd, Nat.reduceSub, Nat.reduceMul, Nat.reduceLeDiff, Int.reduceEq, Nat.reduceEqDiff, M2Fs22]
      exact y2
  · have hc : chk S M ws = 6 := by unfold chk; rw [if_pos (.inl hs)]
    simp only [inB_one, hs, hc, decide_false, Bool.not_false, coreS, Value.cells, Value.oneCell', Nat.reduceAdd, Nat.reduceSub, Nat.reduceMul, Nat.reduceLeDiff, Int.reduceEq, Nat.reduceEqDiff, M2Fs22]
    exact y1
/-- A desk's block. -/
def DeskB (h : Eng.Heap) (g b : Nat) (S M : Nat) (a : Option Addr) (n c : Nat) : Prop := h[g]? = some (.cells #[.int .i64 S, .int .i64 M, .slice a n c, .map (some b)] 99)
theorem open49 (S M : Int) (a : Option Addr) (n c : Nat) (ws : List Wn) (h : Eng.Heap) (hr : Row h a (wsV ws)) (hn : n = ws.length) (hl : n ≤ 1000000) :
    CallsH Try.prog 49 #[.agg #[.int .i64 S, .int .i64 M, .slice a n c]] h (fun v h' => Ext h h' ∧
      ((∃ s m : Nat, S = s ∧ M = m ∧ Vb s m ws ∧ ∃ g b, v = .tuple #[.pointer (some ⟨g, 0, none⟩), .int .i64 0] ∧ DeskB h' g b s m a n c ∧ h'[b]? = some (.map #[] 0) ∧ h.size ≤ g ∧ h.size ≤ b) ∨
       (chk S M ws ≠ 0 ∧ v = .tuple #[.pointer none, .int .i64 (chk S M ws)]))) := by
  (refine CallsH_of_exec Try.func49 rfl bod49 ?_; simp only [Try.ntmps49, Try.results49, coreS, stK_some, splice, Value.cells, Value.oneCell', Nat.reduceAdd, Nat.reduceSub, Nat.reduceMul, Nat.reduceLeDiff, Int.reduceEq, Nat.reduceEqDiff, M2Fs49])
  have x0 : Ext h (h.push (.cells #[.int .i64 S, .int .i64 M, .slice a n c] 24)) := (Ext.refl h).push _
  refine CallsH.mono (check22 S M a n c ws _ (hr.push _) hn hl) ?_
  rintro v h1 ⟨rfl, x1⟩
  have hb1 := x1.get (push_new (h := h))
  have y1 := x0.trans x1
  by_cases hc : chk S M ws = 0
  · simp only [hc, hb1, splice, coreS, Value.cells, Value.oneCell', Nat.reduceAdd, Nat.reduceSub, Nat.reduceMul, Nat.reduceLeDiff, Int.reduceEq, Nat.reduceEqDiff, M2Fs49]
    obtain ⟨s, m, rfl, rfl, V⟩ := chk_ok hc
    exact ⟨(y1.push _).push _, .inl ⟨s, m, rfl, rfl, V, h1.size + 1, h1.size, rfl, by unfold DeskB; exact pn1, by simp, by have := y1.size; omega, y1.size⟩⟩
  · simp only [hc, decide_false, Bool.not_false, coreS, Value.cells, Value.oneCell', Nat.reduceAdd, Nat.reduceSub, Nat.reduceMul, Nat.reduceLeDiff, Int.reduceEq, Nat.reduceEqDiff, M2Fs49]
    refine ⟨y1, .inr ?_⟩
    exact hc
end Go.Proofs.Ytmgkeeefbfefgaa
