/- Walks: Loads, of the reference. -/
import Derived.Test.YtmgkeeefbfefgaaM5
import Derived.Test.YtmgkeeefbfefgaaEngX
namespace Go.Proofs.Ytmgkeeefbfefgaa
open Go Go.Proofs Go.Eng Go.Run Tab
set_option maxRecDepth 100000
set_option linter.unusedSimpArgs false
set_option linter.unusedVariables false
set_option linter.defProp false
set_option maxHeartbeats 1000000
set_option linter.defProp false
def M6Fs19 := (And.intro @agg24 (And.intro @inf24 @sz24))
def M6Fs51 := (And.intro (And.intro (And.intro (And.intro @agg22 @agg3) (And.intro @by3 @by58)) (And.intro (And.intro @fo24_0 @fo24_1) (And.intro @fo24_2 (And.intro @fo58_0 @fo58_1)))) (And.intro (And.intro (And.intro @inf22 @inf3) (And.intro @inf58 @sz22)) (And.intro (And.intro @sz3 @sz58) (And.intro @zero3 (And.intro @Try.underlying22 @Try.underlying25)))))
/-- Two slices of so many zeros, in new blocks. -/
def TwoZ (m : Nat) (h' : Eng.Heap) (v w : Value) (S M : Nat) : Prop := ∃ p q, v = .slice (some ⟨p, 0, none⟩) S S ∧ w = .slice (some ⟨q, 0, none⟩) M M ∧ p ≠ q ∧ m ≤ p ∧ m ≤ q ∧ h'[p]? = some (.cells (List.replicate S (.int .i64 0)).toArray 3) ∧ h'[q]? = some (.cells (List.replicate M (.int .i64 0)).toArray 3)
theorem loadsOf51 (S M : Nat) (a : Option Addr) (n c : Nat) (ws : List Wn) (h : Eng.Heap) (hr : Row h a (wsV ws)) (hn : n = ws.length) (V : Vb S M ws) :
    CallsH Try.prog 51 #[.agg #[.int .i64 S, .int .i64 M, .slice a n c]] h (fun v h' => (∃ p q, v = .tuple #[.slice (some ⟨p, 0, none⟩) S S, .slice (some ⟨q, 0, none⟩) M M] ∧ p ≠ q ∧ h.size ≤ p ∧ h.size ≤ q ∧ h'[p]? = some (.cells (ldv (shN ws) S n).toArray 3) ∧ h'[q]? = some (.cells (ldv (moN ws) M n).toArray 3)) ∧ Ext h h') := by
  have hb0 := push_new (h := h) (o := .cells #[.int .i64 S, .int .i64 M, .slice a n c] 24)
  have x0 : Ext h (h.push (.cells #[.int .i64 S, .int .i64 M, .slice a n c] 24)) := (Ext.refl h).push _
  have V1 := V.s1
  have V2 := V.s2
  have V3 := V.m1
  have V4 := V.m2
  (refine CallsH_of_exec Try.func51 rfl bod51 ?_; simp only [Try.ntmps51, Try.results51, coreS, stK_some, splice, Value.cells, Value.oneCell', Nat.reduceAdd, Nat.reduceSub, Nat.reduceMul, Nat.reduceLeDiff, Int.reduceEq, Nat.reduceEqDiff, M6Fs51])
  generalize h.push (.cells #[.int .i64 S, .int .i64 M, .slice a n c] 24) = h0 at hb0 x0 ⊢
  refine WP_cut [4, 5, 7, 8, 9, 10, 11, 12] (fun g h' => TwoZ h0.size h' (g 4) (g 5) S M ∧ Ext h0 h') ?_ ?_
  · refine WP_tree (by kernel_rfl) sta_ext (.quiet 0 (.quiet 1 (.quiet 3 (.quiet 4 (.fork2 2 5 true true (.quiet 6 (.keep 5 (.quiet 7 (.fin)))) (.keep 2 (.quiet 6 (.quiet 7 (.fin))))))))) (by kernel_rfl) rfl (by kernel_rfl) ?_
    simp only [hb0, coreS, Value.cells, Value.oneCell', Nat.reduceAdd, Nat.reduceSub, Nat.reduceMul, Nat.reduceLeDiff, Int.reduceEq, Nat.reduceEqDiff, drawS, treeS, M6Fs51]
    refine execT_fork2 fun h1 x1 => ⟨?_, ?_⟩
    · simp only [List.flatten_replicate_singleton, coreS, Value.cells, Value.oneCell', Nat.reduceAdd, Nat.reduceSub, Nat.reduceMul, Nat.reduceLeDiff, Int.reduceEq, Nat.reduceEqDiff, drawS, treeS, M6Fs51]
      repeat (first | refine And.intro (by omega) ?_ | refine And.intro ((Ext.refl _).push _) ?_ | refine And.intro (fun _ => (Ext.refl _).push _) ?_)
      refine execT_keep fun h2 x2 => ?_
      simp only [List.flatten_replicate_singleton, coreS, Value.cells, Value.oneCell', Nat.reduceAdd, Nat.reduceSub, Nat.reduceMul, Nat.reduceLeDiff, Int.reduceEq, Nat.reduceEqDiff, drawS, treeS, M6Fs51]
      repeat (first | refine And.intro (by omega) ?_ | refine And.intro ((Ext.refl _).push _) ?_ | refine And.intro (fun _ => (Ext.refl _).push _) ?_)
      refine execT_fin fun h3 x3 => ?_
      have s2 := x2.size
      rw [push_size] at s2
      have s1 := x1.size
      simp only [thenK_normal]
      exact midK_mk (by kernel_rfl) ⟨⟨h1.size, h2.size, rfl, rfl, by omega, s1, by omega, x3.get (push_old (x2.get push_new)), x3.get push_new⟩, ((x1.push _).trans x2).trans (x3.of_push)⟩
    · simp only [List.flatten_replicate_singleton, coreS, Value.cells, Value.oneCell', Nat.reduceAdd, Nat.reduceSub, Nat.reduceMul, Nat.reduceLeDiff, Int.reduceEq, Nat.reduceEqDiff, drawS, treeS, M6Fs51]
      repeat (first | refine And.intro (by omega) ?_ | refine And.intro ((Ext.refl _).push _) ?_ | refine And.intro (fun _ => (Ext.refl _).push _) ?_)
      refine execT_keep fun h2 x2 => ?_
      simp only [List.flatten_replicate_singleton, coreS, Value.cells, Value.oneCell', Nat.reduceAdd, Nat.reduceSub, Nat.reduceMul, Nat.reduceLeDiff, Int.reduceEq, Nat.reduceEqDiff, drawS, treeS, M6Fs51]
      repeat (first | refine And.intro (by omega) ?_ | refine And.intro ((Ext.refl _).push _) ?_ | refine And.intro (fun _ => (Ext.refl _).push _) ?_)
      refine execT_fin fun h3 x3 => ?_
      have s2 := x2.size
      rw [push_size] at s2
      have s1 := x1.size
      simp only [thenK_normal]
      exact midK_mk (by kernel_rfl) ⟨⟨h2.size, h1.size, rfl, rfl, by omega, by omega, s1, x3.get push_new, x3.get (push_old (x2.get push_new))⟩, ((x1.push _).trans x2).trans (x3.of_push)⟩
  · rintro e0 h1 ⟨⟨p, q, e4, e5, hpq, hp, hq, hzp, hzq⟩, x1⟩
    have hb1 := x1.get hb0
    have y1 := x0.trans x1
    have s01 := x0.size
    have sh0 := lt_of_get hb0
    rw [← ldv_zero (f := shN ws)] at hzp
    rw [← ldv_zero (f := moN ws)] at hzq
    simp only [e4, e5, coreS, Value.cells, Value.oneCell', Nat.reduceAdd, Nat.reduceSub, Nat.reduceMul, Nat.reduceLeDiff, Int.reduceEq, Nat.reduceEqDiff, M6Fs51]
    refine WP_loopI [6, 13, 14, 15, 16, 17, 18, 19, 20, 21, 22, 23, 24, 25, 26, 27, 28, 29, 30, 31, 32, 33, 34, 35, 36, 37, 38, 39, 40, 41] (fun e h' => Ext h0 h' ∧ ∃ i : Nat, i ≤ n ∧ e 6 = .int .i64 i ∧ h'[p]? = some (.cells (ldv (shN ws) S i).toArray 3) ∧ h'[q]? = some (.cells (ldv (moN ws) M i).toArray 3)) (fun e _ => match e 6 with | .int _ q => n - q.toNat | _ => 0) ⟨x1, 0, by omega, rfl, hzp, hzq⟩ ?_
    rintro e h' ⟨x, i, hi, he, r2, r3⟩
    have hb' := x.get hb0
    by_cases hin : i < ws.length
    · have hlt : (i : Int) < (n : Int) := by omega
      have hr' := hr.ext (x0.trans x)
      have fa := faR hr' hin
      have c0 := cellW0 hr' hin
      have c1 := cellW1 hr' hin
      have hsm := rowW_some hr hin
      have hs := V.s hin
      have hm := V.m hin
      rw [hs.1] at c0
      rw [hm.1] at c1
      have k1 := ldv_get (f := shN ws) (S := S) (i := i) (x := shN ws i) hs.2
      have k2 := ldv_get (f := moN ws) (S := M) (i := i) (x := moN ws i) hm.2
      have lb1 := load_bound (shN ws) i (shN ws i)
      have lb2 := load_bound (moN ws) i (moN ws i)
      have V3 := V.n
      simp only [he, hlt, hb', fa, c0, r2, k1, decide_true, Int.toNat_natCast, coreS, Value.cells, Value.oneCell', Nat.reduceAdd, Nat.reduceSub, Nat.reduceMul, Nat.reduceLeDiff, Int.reduceEq, Nat.reduceEqDiff, M6Fs51]
      have hpl := lt_of_get r2
      refine ⟨by omega, hsm, ⟨by omega, by omega⟩, rfl, by rw [inK_i64]; omega, ⟨by omega, by omega⟩, rfl, ?_⟩
      refine stK_abs r2 (by simp [ldv_length]; omega) fun h4 g4 u4 => ?_
      rw [ldv_set (by omega)] at g4
      have z3 := u4.get r3 (by omega)
      have y4 : Ext h0 h4 := u4.ext x (by omega)
      have hr4 := hr.ext (x0.trans y4)
      have c1 := cellW1 hr4 hin
      rw [hm.1] at c1
      simp only [y4.get hb0, fa, c1, z3, k2, Int.toNat_natCast, coreS, Value.cells, Value.oneCell', Nat.reduceAdd, Nat.reduceSub, Nat.reduceMul, Nat.reduceLeDiff, Int.reduceEq, Nat.reduceEqDiff, M6Fs51]
      refine ⟨⟨by omega, by omega⟩, hsm, ⟨by omega, by omega⟩, rfl, by rw [inK_i64]; omega, ⟨by omega, by omega⟩, rfl, ?_⟩
      refine stK_abs z3 (by simp [ldv_length]; omega) fun h5 g5 u5 => ?_
      rw [ldv_set (by omega)] at g5
      simp only [he, coreS, Value.cells, Value.oneCell', Nat.reduceAdd, Nat.reduceSub, Nat.reduceMul, Nat.reduceLeDiff, Int.reduceEq, Nat.reduceEqDiff, M6Fs51]
      refine ⟨by rw [inK_i64]; omega, roundK_mk (by kernel_rfl) ⟨u5.ext y4 (by omega), i + 1, by omega, rfl, u5.get g4 (by omega), g5⟩ ?_⟩
      show n - ((i : Int) + 1).toNat < n - (i : Int).toNat
      omega
    · obtain rfl : i = n := by omega
      have hlt : ¬ ((i : Int) < (i : Int)) := by omega
      simp only [he, hlt, hb', decide_false, coreS, Value.cells, Value.oneCell', Nat.reduceAdd, Nat.reduceSub, Nat.reduceMul, Nat.reduceLeDiff, Int.reduceEq, Nat.reduceEqDiff, M6Fs51]
      exact ⟨⟨p, q, rfl, hpq, by omega, by omega, r2, r3⟩, x0.trans x⟩
/-- What Loads returns. -/
structure LoadsP (S M : Int) (ws : List Wn) (h0 : Nat) (h' : Eng.Heap) (v : Value) : Prop where
  ok : ∀ s m : Nat, S = s → M = m → Vb s m ws → ∃ p q, v = .tuple #[.slice (some ⟨p, 0, none⟩) s s, .slice (some ⟨q, 0, none⟩) m m, .int .i64 0] ∧ p ≠ q ∧ h0 ≤ p ∧ h0 ≤ q ∧ h'[p]? = some (.cells (ldv (shN ws) s ws.length).toArray 3) ∧ h'[q]? = some (.cells (ldv (moN ws) m ws.length).toArray 3)
  no : chk S M ws ≠ 0 → v = .tuple #[.slice none 0 0, .slice none 0 0, .int .i64 (chk S M ws)]
theorem loads19 (S M : Int) (a : Option Addr) (n c : Nat) (ws : List Wn) (h : Eng.Heap) (hr : Row h a (wsV ws)) (hn : n = ws.length) (hl : n ≤ 1000000) :
    CallsH Try.prog 19 #[.agg #[.int .i64 S, .int .i64 M, .slice a n c]] h (fun v h' => LoadsP S M ws h.size h' v ∧ Ext h h') := by
  (refine CallsH_of_exec Try.func19 rfl bod19 ?_; simp only [Try.ntmps19, Try.results19, coreS, stK_some, splice, Value.cells, Value.oneCell', Nat.reduceAdd, Nat.reduceSub, Nat.reduceMul, Nat.reduceLeDiff, Int.reduceEq, Nat.reduceEqDiff, M6Fs19])
  have x0 : Ext h (h.push (.cells #[.int .i64 S, .int .i64 M, .slice a n c] 24)) := (Ext.refl h).push _
  refine CallsH.mono (check23 S M a n c ws _ (hr.push _) hn hl) ?_
  rintro v h1 ⟨rfl, x1⟩
  have hb1 := x1.get (push_new (h := h))
  have y1 := x0.trans x1
  by_cases hc : chk S M ws = 0
  · obtain ⟨s, m, rfl, rfl, V⟩ := chk_ok hc
    simp only [hc, hb1, Bool.not_true, decide_true, coreS, Value.cells, Value.oneCell', Nat.reduceAdd, Nat.reduceSub, Nat.reduceMul, Nat.reduceLeDiff, Int.reduceEq, Nat.reduceEqDiff, M6Fs19]
    refine CallsH.mono (loadsOf51 s m a n c ws h1 (hr.ext y1) hn V) ?_
    rintro v h2 ⟨⟨p, q, rfl, e1, e2, e3, e4, e5⟩, x2⟩
    simp only [coreS, Value.cells, Value.oneCell', Nat.reduceAdd, Nat.reduceSub, Nat.reduceMul, Nat.reduceLeDiff, Int.reduceEq, Nat.reduceEqDiff, M6Fs19]
    have := y1.size
    refine ⟨⟨fun s' m' hs hm V' => ?_, fun hne => absurd hc hne⟩, y1.trans x2⟩
    obtain rfl : s = s' := by omega
    obtain rfl : m = m' := by omega
    subst hn
    exact ⟨p, q, rfl, e1, by omega, by omega, e4, e5⟩
  · simp only [hc, hb1, decide_false, Bool.not_false, coreS, Value.cells, Value.oneCell', Nat.reduceAdd, Nat.reduceSub, Nat.reduceMul, Nat.reduceLeDiff, Int.reduceEq, Nat.reduceEqDiff, M6Fs19]
    refine CallsH.mono (check23 S M a n c ws _ (hr.ext y1) hn hl) ?_
    rintro v h2 ⟨rfl, x2⟩
    simp only [coreS, Value.cells, Value.oneCell', Nat.reduceAdd, Nat.reduceSub, Nat.reduceMul, Nat.reduceLeDiff, Int.reduceEq, Nat.reduceEqDiff, M6Fs19]
    refine ⟨⟨fun s' m' hs hm V' => ?_, fun hne => rfl⟩, y1.trans x2⟩
    subst hs hm
    exact absurd V'.chk hc
end Go.Proofs.Ytmgkeeefbfefgaa
