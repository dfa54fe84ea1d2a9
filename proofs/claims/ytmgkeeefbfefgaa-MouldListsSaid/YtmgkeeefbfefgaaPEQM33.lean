/- Walks: bits, and CheckCover of the program. -/
import Derived.Test.YtmgkeeefbfefgaaPE12
namespace Go.Proofs.Ytmgkeeefbfefgaa
open Go Go.Proofs Go.Eng Go.Run Tab
set_option maxRecDepth 100000
set_option linter.unusedSimpArgs false
set_option linter.unusedVariables false
set_option linter.defProp false
set_option maxHeartbeats 1000000
set_option linter.defProp false
def M33Fs27 := (And.intro (And.intro (And.intro (And.intro @agg22 @agg24) (And.intro @agg25 @agg3)) (And.intro (And.intro @fo24_0 @fo24_1) (And.intro @fo24_2 @inf22))) (And.intro (And.intro (And.intro @inf24 @inf25) (And.intro @inf3 @sz22)) (And.intro (And.intro @sz24 @sz25) (And.intro @sz3 @Try.underlying25))))
def M33Fs28 := (And.intro (And.intro (And.intro (And.intro @agg22 @agg24) (And.intro @agg3 @by58)) (And.intro (And.intro @fo24_0 @fo24_1) (And.intro @fo24_2 (And.intro @fo58_0 @fo58_1)))) (And.intro (And.intro (And.intro @inf22 @inf24) (And.intro @inf3 (And.intro @inf58 @sz22))) (And.intro (And.intro @sz24 @sz3) (And.intro @sz58 (And.intro @Try.underlying22 @Try.underlying25)))))
def M33Fs42 := (And.intro (And.intro @by3 @inf3) (And.intro @sz3 (And.intro @zero3 @Try.underlying25)))
def M33Fs68 := (And.intro (And.intro (And.intro @agg25 @agg3) (And.intro @fo58_0 @fo58_1)) (And.intro (And.intro @inf25 @inf3) (And.intro @sz25 @sz3)))
theorem bits42 (n : Nat) (x : Int) (h : Eng.Heap) (hn : n ≤ 14) (hx : 0 ≤ x ∧ x ≤ 65535) :
    CallsH Try.prog 42 #[.int .i64 n, .int .u16 x] h (fun v h' => (∃ a c l, v = .slice a l.length c ∧ OwnI h.size h' 3 a l.length c (zsN l) ∧ l.Pairwise (· < ·) ∧ ∀ t ∈ l, t < n) ∧ Ext h h') := by
  (refine CallsH_of_exec Try.func42 rfl bod42 ?_; simp only [Try.ntmps42, Try.results42, coreS, stK_some, splice, Value.cells, Value.oneCell', Nat.reduceAdd, Nat.reduceSub, Nat.reduceMul, Nat.reduceLeDiff, Int.reduceEq, Nat.reduceEqDiff, M33Fs42])
  refine WP_loopI [5, 6, 7, 8, 9, 10, 11, 12, 13, 14, 15, 16, 17, 18, 19, 20] (fun e h' => Ext h h' ∧ ∃ i : Nat, i ≤ n ∧ e 6 = .int .i64 i ∧ ∃ a c l, e 5 = .slice a l.length c ∧ OwnI h.size h' 3 a l.length c (zsN l) ∧ l.Pairwise (· < ·) ∧ (∀ t ∈ l, t < i) ∧ l.length ≤ i) (fun e _ => match e 6 with | .int _ q => n - q.toNat | _ => 0) ⟨Ext.refl _, 0, by omega, rfl, none, 0, [], rfl, OwnI.nil _ _ _, List.Pairwise.nil, fun t ht => absurd ht List.not_mem_nil, by simp⟩ ?_
  rintro e h1 ⟨x1, i, hi, he, a, c, l, hel, O, hup, hlt, hll⟩
  by_cases hin : i < n
  case neg =>
    obtain rfl : i = n := by omega
    simp only [he, hel, show ¬ ((i : Int) < (i : Int)) by omega, decide_false, coreS, Value.cells, Value.oneCell', Nat.reduceAdd, Nat.reduceSub, Nat.reduceMul, Nat.reduceLeDiff, Int.reduceEq, Nat.reduceEqDiff, M33Fs42]
    exact ⟨⟨a, c, l, rfl, O, hup, hlt⟩, x1⟩
  have hl1 : (i : Int) < (n : Int) := by omega
  have meas : n - ((i : Int) + 1).toNat < n - (i : Int).toNat := by omega
  simp only [he, hel, hl1, decide_true, Int.toNat_natCast, coreS, Value.cells, Value.oneCell', Nat.reduceAdd, Nat.reduceSub, Nat.reduceMul, Nat.reduceLeDiff, Int.reduceEq, Nat.reduceEqDiff, M33Fs42]
  refine ⟨by omega, by simp [IntKind.bits]; omega, fun _ => ?_, fun _ => ?_⟩
  · have O' := O.ext ((Ext.refl h1).push (.cells #[.int .i64 (i : Int)] 3))
    refine app25 (m0 := h.size) (len := l.length) (m := 1) (ys := [(i : Int)]) rfl rfl O' (by rw [push_size]; have := x1.size; omega) (intsV_one push_new) (by omega) fun a' cap' h5 O5 A5 => ?_
    have ezn : zsN l ++ [(i : Int)] = zsN (l ++ [i]) := by simp [zsN]
    have ell : l.length + 1 = (l ++ [i]).length := by simp
    rw [ezn, ell] at O5
    simp only [he, coreS, Value.cells, Value.oneCell', Nat.reduceAdd, Nat.reduceSub, Nat.reduceMul, Nat.reduceLeDiff, Int.reduceEq, Nat.reduceEqDiff, M33Fs42]
    refine ⟨by rw [inK_i64]; omega, roundK_mk (by kernel_rfl) ⟨A5.extN O' (x1.push _) (Nat.le_refl _), i + 1, by omega, rfl, a', cap', l ++ [i], by rw [← ell]; rfl, O5, ?_, ?_, by rw [← ell]; omega⟩ meas⟩
    · exact List.pairwise_append.2 ⟨hup, List.pairwise_singleton _ _, fun x hx y hy => by rw [List.mem_singleton.1 hy]; exact hlt x hx⟩
    · intro t ht
      rcases List.mem_append.1 ht with ht | ht
      · have := hlt t ht; omega
      · rw [List.mem_singleton.1 ht]; omega
  · refine ⟨by rw [inK_i64]; omega, roundK_mk (by kernel_rfl) ⟨x1, i + 1, by omega, rfl, a, c, l, rfl, O, hup, fun t ht => by have := hlt t ht; omega, by omega⟩ meas⟩
/-- The error of CheckCover. -/
noncomputable def covE (S M : Int) (ws : List Wn) (X Y : List Int) : Int :=
  if chk S M ws ≠ 0 then chk S M ws else if riseB S X = false ∨ riseB M Y = false then 3 else if (ws.any fun w => !X.contains w.s && !Y.contains w.m) = true then 14 else 0
noncomputable def covN (S M : Int) (ws : List Wn) (X Y : List Int) : Int := if covE S M ws X Y = 0 then (X.length : Int) + Y.length else 0
theorem cover68 (bx by_ : Nat) (aX aY : Option Addr) (nX cX nY cY : Nat) (X Y : List Int) (w : Wn) (h : Eng.Heap) (h4 : h[bx]? = some (.cells #[.slice aX nX cX] 25)) (h5 : h[by_]? = some (.cells #[.slice aY nY cY] 25)) (hX : IntsV h aX nX X) (hY : IntsV h aY nY Y) (lX : nX ≤ 1000000) (lY : nY ≤ 1000000) :
    CallsH Try.prog 68 (#[] ++ #[.agg #[.int .i64 w.s, .int .i64 w.m]] ++ #[.pointer (some ⟨bx, 0, none⟩), .pointer (some ⟨by_, 0, none⟩)]) h (fun v h' => v = .bool (!X.contains w.s && !Y.contains w.m) ∧ Ext h h') := by
  simp only [Array.append_empty, Array.empty_append, List.append_toArray, List.cons_append, List.nil_append]
  (refine CallsH_of_exec Try.func68 rfl bod68 ?_; simp only [Try.ntmps68, Try.results68, coreS, stK_some, splice, Value.cells, Value.oneCell', Nat.reduceAdd, Nat.reduceSub, Nat.reduceMul, Nat.reduceLeDiff, Int.reduceEq, Nat.reduceEqDiff, M33Fs68])
  have x0 : Ext h (h.push (.cells #[.int .i64 w.s, .int .i64 w.m] 58)) := (Ext.refl h).push _
  have hb := push_new (h := h) (o := .cells #[.int .i64 w.s, .int .i64 w.m] 58)
  have n4 : ¬ (bx = h.size) := by have := lt_of_get h4; omega
  have n5 : ¬ (by_ = h.size) := by have := lt_of_get h5; omega
  simp only [n4, n5, h4, h5, if_false, splice, coreS, Value.cells, Value.oneCell', Nat.reduceAdd, Nat.reduceSub, Nat.reduceMul, Nat.reduceLeDiff, Int.reduceEq, Nat.reduceEqDiff, M33Fs68]
  refine CallsH.mono (contains66 aX nX cX X w.s _ (hX.ext x0) lX) ?_
  rintro v h1 ⟨rfl, x1⟩
  have y1 := x0.trans x1
  cases hcx : X.contains w.s with
  | true =>
    simp only [Bool.not_true, Bool.false_and, coreS, Value.cells, Value.oneCell', Nat.reduceAdd, Nat.reduceSub, Nat.reduceMul, Nat.reduceLeDiff, Int.reduceEq, Nat.reduceEqDiff, M33Fs68]
    exact y1
  | false =>
    simp only [y1.get h5, x1.get hb, Bool.not_false, Bool.true_and, coreS, Value.cells, Value.oneCell', Nat.reduceAdd, Nat.reduceSub, Nat.reduceMul, Nat.reduceLeDiff, Int.reduceEq, Nat.reduceEqDiff, M33Fs68]
    refine CallsH.mono (contains66 aY nY cY Y w.m h1 (hY.ext y1) lY) ?_
    rintro v h2 ⟨rfl, x2⟩
    simp only [coreS, Value.cells, Value.oneCell', Nat.reduceAdd, Nat.reduceSub, Nat.reduceMul, Nat.reduceLeDiff, Int.reduceEq, Nat.reduceEqDiff, M33Fs68]
    exact y1.trans x2
theorem cover27 (S M : Int) (a : Option Addr) (n c : Nat) (ws : List Wn) (aX : Option Addr) (nX cX : Nat) (X : List Int) (aY : Option Addr) (nY cY : Nat) (Y : List Int) (h : Eng.Heap) (hr : Row h a (wsV ws)) (hn : n = ws.length) (hl : n ≤ 1000000) (hX : IntsV h aX nX X) (hY : IntsV h aY nY Y) (lX : nX ≤ 1000000) (lY : nY ≤ 1000000) :
    CallsH Try.prog 27 #[.agg #[.int .i64 S, .int .i64 M, .slice a n c], .slice aX nX cX, .slice aY nY cY] h (fun v h' => v = .tuple #[.int .i64 (covN S M ws X Y), .int .i64 (covE S M ws X Y)] ∧ Ext h h') := by
  have hXl := hX.len
  have hYl := hY.len
  (refine CallsH_of_exec Try.func27 rfl bod27 ?_; simp only [Try.ntmps27, Try.results27, coreS, stK_some, splice, Value.cells, Value.oneCell', Nat.reduceAdd, Nat.reduceSub, Nat.reduceMul, Nat.reduceLeDiff, Int.reduceEq, Nat.reduceEqDiff, M33Fs27])
  have ne3 : ¬ (h.size = h.size + 1 + 1) := by omega
  simp only [ne3, if_false, coreS, Value.cells, Value.oneCell', Nat.reduceAdd, Nat.reduceSub, Nat.reduceMul, Nat.reduceLeDiff, Int.reduceEq, Nat.reduceEqDiff, M33Fs27]
  have x0 : Ext h (((h.push (.cells #[.int .i64 S, .int .i64 M, .slice a n c] 24)).push (.cells #[.slice aX nX cX] 25)).push (.cells #[.slice aY nY cY] 25)) := (((Ext.refl h).push _).push _).push _
  have q0 : (((h.push (.cells #[.int .i64 S, .int .i64 M, .slice a n c] 24)).push (.cells #[.slice aX nX cX] 25)).push (.cells #[.slice aY nY cY] 25))[h.size]? = some (.cells #[.int .i64 S, .int .i64 M, .slice a n c] 24) := push_old pn0
  have q1 : (((h.push (.cells #[.int .i64 S, .int .i64 M, .slice a n c] 24)).push (.cells #[.slice aX nX cX] 25)).push (.cells #[.slice aY nY cY] 25))[h.size + 1]? = some (.cells #[.slice aX nX cX] 25) := push_old pn1
  have q2 : (((h.push (.cells #[.int .i64 S, .int .i64 M, .slice a n c] 24)).push (.cells #[.slice aX nX cX] 25)).push (.cells #[.slice aY nY cY] 25))[h.size + 1 + 1]? = some (.cells #[.slice aY nY cY] 25) := by rw [Array.getElem?_push, if_pos (by simp)]
  generalize ((h.push (.cells #[.int .i64 S, .int .i64 M, .slice a n c] 24)).push (.cells #[.slice aX nX cX] 25)).push (.cells #[.slice aY nY cY] 25) = hh at x0 q0 q1 q2 ⊢
  have fin : ∀ {e k : Int} {Q : Prop}, covE S M ws X Y = e → covN S M ws X Y = k → Q → Value.tuple #[.int .i64 k, .int .i64 e] = Value.tuple #[.int .i64 (covN S M ws X Y), .int .i64 (covE S M ws X Y)] ∧ Q := fun h1 h2 q => ⟨by rw [h1, h2], q⟩
  refine CallsH.mono (check22 S M a n c ws hh (hr.ext x0) hn hl) ?_
  rintro v h1 ⟨rfl, x1⟩
  have y1 := x0.trans x1
  by_cases hc : chk S M ws = 0
  case neg =>
    simp only [hc, decide_false, Bool.not_false, coreS, Value.cells, Value.oneCell', Nat.reduceAdd, Nat.reduceSub, Nat.reduceMul, Nat.reduceLeDiff, Int.reduceEq, Nat.reduceEqDiff, M33Fs27]
    have e1 : covE S M ws X Y = chk S M ws := by unfold covE; rw [if_pos hc]
    exact fin e1 (by unfold covN; rw [e1, if_neg hc]) y1
  obtain ⟨s, m, rfl, rfl, V⟩ := chk_ok hc
  have v1 := V.s1
  have v2 := V.s2
  have v3 := V.m1
  have v4 := V.m2
  have k0 := x1.get q0
  have k1 := x1.get q1
  have k2 := x1.get q2
  simp only [hc, k0, k1, decide_true, Bool.not_true, coreS, Value.cells, Value.oneCell', Nat.reduceAdd, Nat.reduceSub, Nat.reduceMul, Nat.reduceLeDiff, Int.reduceEq, Nat.reduceEqDiff, M33Fs27]
  have hc0 := V.chk
  refine CallsH.mono (rising69 aX nX cX X s h1 (hX.ext y1) lX ⟨by omega, by omega⟩) ?_
  rintro v h2 ⟨rfl, x2⟩
  have y2 := y1.trans x2
  cases hrX : riseB s X with
  | false =>
    simp only [Bool.not_false, coreS, Value.cells, Value.oneCell', Nat.reduceAdd, Nat.reduceSub, Nat.reduceMul, Nat.reduceLeDiff, Int.reduceEq, Nat.reduceEqDiff, M33Fs27]
    have e1 : covE s m ws X Y = 3 := by unfold covE; rw [if_neg (by simpa using hc0), if_pos (.inl hrX)]
    exact fin e1 (by unfold covN; rw [e1, if_neg (by decide)]) y2
  | true =>
    simp only [x2.get k0, x2.get k2, Bool.not_true, coreS, Value.cells, Value.oneCell', Nat.reduceAdd, Nat.reduceSub, Nat.reduceMul, Nat.reduceLeDiff, Int.reduceEq, Nat.reduceEqDiff, M33Fs27]
    refine CallsH.mono (rising69 aY nY cY Y m h2 (hY.ext y2) lY ⟨by omega, by omega⟩) ?_
    rintro v h3 ⟨rfl, x3⟩
    have y3 := y2.trans x3
    cases hrY : riseB m Y with
    | false =>
      simp only [Bool.not_false, coreS, Value.cells, Value.oneCell', Nat.reduceAdd, Nat.reduceSub, Nat.reduceMul, Nat.reduceLeDiff, Int.reduceEq, Nat.reduceEqDiff, M33Fs27]
      have e1 : covE s m ws X Y = 3 := by unfold covE; rw [if_neg (by simpa using hc0), if_pos (.inr hrY)]
      exact fin e1 (by unfold covN; rw [e1, if_neg (by decide)]) y3
    | true =>
      have x13 := x2.trans x3
      have hno : ¬ (riseB s X = false ∨ riseB m Y = false) := by rw [hrX, hrY]; simp
      simp only [x13.get k0, Bool.not_true, coreS, Value.cells, Value.oneCell', Nat.reduceAdd, Nat.reduceSub, Nat.reduceMul, Nat.reduceLeDiff, Int.reduceEq, Nat.reduceEqDiff, M33Fs27]
      refine CallsH.mono (containsFunc60 a n c ws 68 _ (fun w => !X.contains w.s && !Y.contains w.m) h3 (hr.ext y3) hn hl fun w _ h' x' => cover68 _ _ aX aY nX cX nY cY X Y w h' (x'.get (x13.get k1)) (x'.get (x13.get k2)) (hX.ext (y3.trans x')) (hY.ext (y3.trans x')) lX lY) ?_
      rintro v h4 ⟨rfl, x4⟩
      have x14 := x13.trans x4
      cases hany : ws.any fun w => !X.contains w.s && !Y.contains w.m with
      | true =>
        simp only [coreS, Value.cells, Value.oneCell', Nat.reduceAdd, Nat.reduceSub, Nat.reduceMul, Nat.reduceLeDiff, Int.reduceEq, Nat.reduceEqDiff, M33Fs27]
        have e1 : covE s m ws X Y = 14 := by unfold covE; rw [if_neg (by simpa using hc0), if_neg hno, if_pos hany]
        exact fin e1 (by unfold covN; rw [e1, if_neg (by decide)]) (y3.trans x4)
      | false =>
        simp only [x14.get k1, x14.get k2, coreS, Value.cells, Value.oneCell', Nat.reduceAdd, Nat.reduceSub, Nat.reduceMul, Nat.reduceLeDiff, Int.reduceEq, Nat.reduceEqDiff, M33Fs27]
        have e1 : covE s m ws X Y = 0 := by unfold covE; rw [if_neg (by simpa using hc0), if_neg hno, if_neg (by rw [hany]; decide)]
        refine ⟨by rw [inK_i64]; omega, fin e1 (by unfold covN; rw [e1, if_pos rfl]; omega) (y3.trans x4)⟩
theorem cover28 (S M : Int) (a : Option Addr) (n c : Nat) (ws : List Wn) (aX : Option Addr) (nX cX : Nat) (X : List Int) (aY : Option Addr) (nY cY : Nat) (Y : List Int) (h : Eng.Heap) (hr : Row h a (wsV ws)) (hn : n = ws.length) (hl : n ≤ 1000000) (hX : IntsV h aX nX X) (hY : IntsV h aY nY Y) (lX : nX ≤ 1000000) (lY : nY ≤ 1000000) :
    CallsH Try.prog 28 #[.agg #[.int .i64 S, .int .i64 M, .slice a n c], .slice aX nX cX, .slice aY nY cY] h (fun v h' => v = .tuple #[.int .i64 (covN S M ws X Y), .int .i64 (covE S M ws X Y)] ∧ Ext h h') := by
  have hXl := hX.len
  have hYl := hY.len
  (refine CallsH_of_exec Try.func28 rfl bod28 ?_; simp only [Try.ntmps28, Try.results28, coreS, stK_some, splice, Value.cells, Value.oneCell', Nat.reduceAdd, Nat.reduceSub, Nat.reduceMul, Nat.reduceLeDiff, Int.reduceEq, Nat.reduceEqDiff, M33Fs28])
  have x0 : Ext h (h.push (.cells #[.int .i64 S, .int .i64 M, .slice a n c] 24)) := (Ext.refl h).push _
  have q0 := push_new (h := h) (o := .cells #[.int .i64 S, .int .i64 M, .slice a n c] 24)
  generalize h.push (.cells #[.int .i64 S, .int .i64 M, .slice a n c] 24) = hh at x0 q0 ⊢
  have fin : ∀ {e k : Int} {Q : Prop}, covE S M ws X Y = e → covN S M ws X Y = k → Q → Value.tuple #[.int .i64 k, .int .i64 e] = Value.tuple #[.int .i64 (covN S M ws X Y), .int .i64 (covE S M ws X Y)] ∧ Q := fun h1 h2 q => ⟨by rw [h1, h2], q⟩
  refine CallsH.mono (check23 S M a n c ws hh (hr.ext x0) hn hl) ?_
  rintro v h1 ⟨rfl, x1⟩
  have y1 := x0.trans x1
  have k0 := x1.get q0
  by_cases hc : chk S M ws = 0
  case neg =>
    simp only [hc, k0, decide_false, Bool.not_false, coreS, Value.cells, Value.oneCell', Nat.reduceAdd, Nat.reduceSub, Nat.reduceMul, Nat.reduceLeDiff, Int.reduceEq, Nat.reduceEqDiff, M33Fs28]
    refine CallsH.mono (check23 S M a n c ws h1 (hr.ext y1) hn hl) ?_
    rintro v h2 ⟨rfl, x2⟩
    simp only [coreS, Value.cells, Value.oneCell', Nat.reduceAdd, Nat.reduceSub, Nat.reduceMul, Nat.reduceLeDiff, Int.reduceEq, Nat.reduceEqDiff, M33Fs28]
    have e1 : covE S M ws X Y = chk S M ws := by unfold covE; rw [if_pos hc]
    exact fin e1 (by unfold covN; rw [e1, if_neg hc]) (y1.trans x2)
  obtain ⟨s, m, rfl, rfl, V⟩ := chk_ok hc
  have hc0 := V.chk
  simp only [hc, k0, decide_true, Bool.not_true, coreS, Value.cells, Value.oneCell', Nat.reduceAdd, Nat.reduceSub, Nat.reduceMul, Nat.reduceLeDiff, Int.reduceEq, Nat.reduceEqDiff, M33Fs28]
  refine CallsH.mono (isList70 aX nX cX X s h1 (hX.ext y1) lX) ?_
  rintro v h2 ⟨rfl, rfl⟩
  cases hrX : riseB s X with
  | false =>
    simp only [Bool.not_false, coreS, Value.cells, Value.oneCell', Nat.reduceAdd, Nat.reduceSub, Nat.reduceMul, Nat.reduceLeDiff, Int.reduceEq, Nat.reduceEqDiff, M33Fs28]
    have e1 : covE s m ws X Y = 3 := by unfold covE; rw [if_neg (by simpa using hc0), if_pos (.inl hrX)]
    exact fin e1 (by unfold covN; rw [e1, if_neg (by decide)]) y1
  | true =>
    simp only [k0, Bool.not_true, coreS, Value.cells, Value.oneCell', Nat.reduceAdd, Nat.reduceSub, Nat.reduceMul, Nat.reduceLeDiff, Int.reduceEq, Nat.reduceEqDiff, M33Fs28]
    refine CallsH.mono (isList70 aY nY cY Y m h2 (hY.ext y1) lY) ?_
    rintro v h3 ⟨rfl, rfl⟩
    cases hrY : riseB m Y with
    | false =>
      simp only [Bool.not_false, coreS, Value.cells, Value.oneCell', Nat.reduceAdd, Nat.reduceSub, Nat.reduceMul, Nat.reduceLeDiff, Int.reduceEq, Nat.reduceEqDiff, M33Fs28]
      have e1 : covE s m ws X Y = 3 := by unfold covE; rw [if_neg (by simpa using hc0), if_pos (.inr hrY)]
      exact fin e1 (by unfold covN; rw [e1, if_neg (by decide)]) y1
    | true =>
      have hno : ¬ (riseB s X = false ∨ riseB m Y = false) := by rw [hrX, hrY]; simp
      simp only [Bool.not_true, coreS, Value.cells, Value.oneCell', Nat.reduceAdd, Nat.reduceSub, Nat.reduceMul, Nat.reduceLeDiff, Int.reduceEq, Nat.reduceEqDiff, M33Fs28]
      refine WP_loopI [6, 7, 8, 26, 27, 28, 29, 30, 31, 32, 33, 34, 35, 36, 37, 38, 39, 40, 41, 42, 43, 44, 45, 46, 47, 48, 49, 50, 51, 52] (fun e h' => h' = h3 ∧ ∃ i : Nat, i ≤ n ∧ e 8 = .int .i64 i ∧ ∀ j, j < i → (!X.contains (wAt ws j).s && !Y.contains (wAt ws j).m) = false) (fun e _ => match e 8 with | .int _ q => n - q.toNat | _ => 0) ⟨rfl, 0, by omega, rfl, fun j hj => absurd hj (by omega)⟩ ?_
      rintro e h4 ⟨rfl, i, hi, he, hall⟩
      by_cases hin : i < n
      · have hlt : (i : Int) < (n : Int) := by omega
        have hiw : i < ws.length := by omega
        have hr4 := hr.ext y1
        have fa := faR hr4 hiw
        have c0 := cellW0 hr4 hiw
        have c1 := cellW1 hr4 hiw
        have sm := rowW_some hr4 hiw
        have meas : n - ((i : Int) + 1).toNat < n - (i : Int).toNat := by omega
        have stop : (!X.contains (wAt ws i).s && !Y.contains (wAt ws i).m) = true → covE s m ws X Y = 14 := fun h => by
          unfold covE; rw [if_neg (by simpa using hc0), if_neg hno, if_pos (List.any_eq_true.2 ⟨_, wAt_mem hiw, h⟩)]
        have go : (!X.contains (wAt ws i).s && !Y.contains (wAt ws i).m) = false → ∀ j, j < i + 1 → (!X.contains (wAt ws j).s && !Y.contains (wAt ws j).m) = false := fun h j hj => by
          by_cases e : j = i
          · rw [e]; exact h
          · exact hall j (by omega)
        simp only [he, hlt, k0, fa, c0, decide_true, Int.toNat_natCast, coreS, Value.cells, Value.oneCell', Nat.reduceAdd, Nat.reduceSub, Nat.reduceMul, Nat.reduceLeDiff, Int.reduceEq, Nat.reduceEqDiff, M33Fs28]
        refine ⟨by omega, sm, ?_⟩
        refine CallsH.mono (has71 aX nX cX X _ h4 (hX.ext y1) lX) ?_
        rintro v h5 ⟨rfl, rfl⟩
        cases hcx : X.contains (wAt ws i).s with
        | true =>
          rw [hcx] at go
          simp only [he, Bool.not_true, coreS, Value.cells, Value.oneCell', Nat.reduceAdd, Nat.reduceSub, Nat.reduceMul, Nat.reduceLeDiff, Int.reduceEq, Nat.reduceEqDiff, M33Fs28]
          exact ⟨by rw [inK_i64]; omega, roundK_mk (by kernel_rfl) ⟨rfl, i + 1, by omega, rfl, go rfl⟩ meas⟩
        | false =>
          rw [hcx] at go stop
          simp only [he, k0, fa, c1, Bool.not_false, Int.toNat_natCast, coreS, Value.cells, Value.oneCell', Nat.reduceAdd, Nat.reduceSub, Nat.reduceMul, Nat.reduceLeDiff, Int.reduceEq, Nat.reduceEqDiff, M33Fs28]
          refine ⟨by omega, sm, ?_⟩
          refine CallsH.mono (has71 aY nY cY Y _ h5 (hY.ext y1) lY) ?_
          rintro v h6 ⟨rfl, rfl⟩
          cases hcy : Y.contains (wAt ws i).m with
          | true =>
            rw [hcy] at go
            simp only [he, Bool.not_true, coreS, Value.cells, Value.oneCell', Nat.reduceAdd, Nat.reduceSub, Nat.reduceMul, Nat.reduceLeDiff, Int.reduceEq, Nat.reduceEqDiff, M33Fs28]
            exact ⟨by rw [inK_i64]; omega, roundK_mk (by kernel_rfl) ⟨rfl, i + 1, by omega, rfl, go rfl⟩ meas⟩
          | false =>
            rw [hcy] at stop
            simp only [Bool.not_false, coreS, Value.cells, Value.oneCell', Nat.reduceAdd, Nat.reduceSub, Nat.reduceMul, Nat.reduceLeDiff, Int.reduceEq, Nat.reduceEqDiff, M33Fs28]
            have e1 := stop rfl
            exact fin e1 (by unfold covN; rw [e1, if_neg (by decide)]) y1
      obtain rfl : i = n := by omega
      have hany : ws.any (fun w => !X.contains w.s && !Y.contains w.m) = false := by
        rw [List.any_eq_false]
        intro w hw
        obtain ⟨j, hj, rfl⟩ := List.getElem_of_mem hw
        have := hall j (by omega)
        rw [wAt_eq hj] at this
        rw [this]; decide
      simp only [he, show ¬ ((i : Int) < (i : Int)) by omega, k0, decide_false, coreS, Value.cells, Value.oneCell', Nat.reduceAdd, Nat.reduceSub, Nat.reduceMul, Nat.reduceLeDiff, Int.reduceEq, Nat.reduceEqDiff, M33Fs28]
      have e1 : covE s m ws X Y = 0 := by unfold covE; rw [if_neg (by simpa using hc0), if_neg hno, if_neg (by rw [hany]; decide)]
      refine ⟨by rw [inK_i64]; omega, fin e1 (by unfold covN; rw [e1, if_pos rfl]; omega) y1⟩
end Go.Proofs.Ytmgkeeefbfefgaa
