/- Walks: a book with an entry that is posted, as the statements take it. -/
import Derived.Test.YtepaekbjoombpaaGreatDoorD1
import Derived.Test.YtepaekbjoombpaaGreatDoorEL
import Derived.Test.YtepaekbjoombpaaGreatDoorEngK
namespace Go.Proofs.YtepaekbjoombpaaGreatDoor
open Go Go.Proofs Go.Eng Go.Run Tab
set_option maxRecDepth 100000
set_option linter.unusedSimpArgs false
set_option linter.unusedVariables false
set_option maxHeartbeats 2000000
set_option linter.defProp false
def D2Fs44 := (And.intro (And.intro (And.intro (And.intro @agg22 @agg24) (And.intro @agg26 @agg3)) (And.intro (And.intro @fo24_0 @fo24_1) (And.intro @fo24_2 (And.intro @fo26_0 @inf22)))) (And.intro (And.intro (And.intro @inf24 @inf26) (And.intro @inf3 @sz22)) (And.intro (And.intro @sz24 @sz26) (And.intro @sz3 (And.intro @zero24 @Tryz.underlying22)))))
theorem posted44 (acc cl : Int) (a : Option Addr) (n c : Nat) (es : List En) (e : En) (h : Eng.Heap) (hr : Row h a (ensV es)) (hn : n = es.length) (hl : n ≤ 1000000) :
    CallsH Tryz.prog 44 #[.agg #[.int .i64 acc, .int .i64 cl, .slice a n c], .agg #[.int .i64 e.d, .int .i64 e.f, .int .i64 e.t, .int .i64 e.a]] h (fun v h' =>
      (∃ a' n' c', v = .tuple #[.agg #[.int .i64 acc, .int .i64 cl, .slice a' n' c'], .bool (decide (pst acc cl es e = 0)), .bool true] ∧ Row h' a' (ensV (pstX acc cl es e)) ∧ n' = (pstX acc cl es e).length) ∧ Ext h h') := by
  refine CallsH_of_exec Tryz.func44 rfl bod44 ?_
  simp only [Tryz.ntmps44, Tryz.results44, coreS, stK_some, splice, Value.cells, Value.oneCell', Nat.reduceAdd, Nat.reduceSub, Nat.reduceMul, Nat.reduceLeDiff, Int.reduceEq, Nat.reduceEqDiff, D2Fs44]
  simp only [show ¬ (h.size = h.size + 1 + 1) by omega, if_false, coreS, Value.cells, Value.oneCell', Nat.reduceAdd, Nat.reduceSub, Nat.reduceMul, Nat.reduceLeDiff, Int.reduceEq, Nat.reduceEqDiff, D2Fs44]
  refine CallsH.mono (post19 acc cl a n c es e _ (((hr.push _).push _).push _) hn hl) ?_
  rintro v h1 ⟨⟨a1, n1, c1, rfl, r1, l1, z1⟩, x1⟩
  have hb0 := x1.get (push_old (push_old (push_new (h := h))))
  have hb1 := x1.get (push_old pn1)
  have hb2 : h1[h.size + 2]? = some (.cells #[.int .i64 0, .int .i64 0, .slice none 0 0] 24) := x1.get (by rw [Array.getElem?_push, if_pos (by simp)])
  have y1 := x1.of_push.of_push.of_push
  have s0 := lt_of_get hb0
  have s1 := lt_of_get hb1
  have s2 := lt_of_get hb2
  by_cases hp : pst acc cl es e = 0
  · have hX : pstX acc cl es e = ins es e := by rw [pstX, if_pos hp]
    have eA : pstA acc cl es e = acc := by rw [pstA, if_pos hp]
    have eC : pstC acc cl es e = cl := by rw [pstC, if_pos hp]
    have eL : pstL acc cl es e = ins es e := by rw [pstL, if_pos hp]
    have hd : cl < e.d := (pst_iff.1 hp).2.2.2.1
    have hck := chk_ins hp
    rw [eL] at r1 l1
    have hn1 : n1 = n + 1 := by rw [l1, ins_length, hn]
    have hne : ∀ {b : Nat} {o : Obj}, h1[b]? = some o → (h1.push (.cells #[.int .i64 acc, .int .i64 cl, .slice a1 n1 c1] 24))[b]? = some o := fun hb => push_old hb
    have k0 := hne hb0
    have k1 := hne hb1
    have k2 := hne hb2
    have k7 := push_new (h := h1) (o := .cells #[.int .i64 acc, .int .i64 cl, .slice a1 n1 c1] 24)
    have y2 := y1.push (.cells #[.int .i64 acc, .int .i64 cl, .slice a1 n1 c1] 24)
    have r2 := r1.push (.cells #[.int .i64 acc, .int .i64 cl, .slice a1 n1 c1] 24)
    have hlen : (n1 : Int) = (n : Int) + 1 := by omega
    simp only [hp, eA, eC, decide_true, decide_false, Bool.not_true, coreS, stK_some, splice, Value.cells, Value.oneCell', Nat.reduceAdd, Nat.reduceSub, Nat.reduceMul, Nat.reduceLeDiff, Int.reduceEq, Nat.reduceEqDiff, D2Fs44]
    refine WP_tree (by kernel_rfl) sta_ext (.quiet 0 (.quiet 1 (.quiet 2 (.quiet 3 (.quiet 4 (.quiet 5 (.quiet 6 (.quiet 7 (.quiet 8 (.quiet 9 (.quiet 10 (.quiet 11 (.quiet 12 (.quiet 13 (.quiet 14 (.quiet 15 (.quiet 16 (.quiet 17 (.quiet 18 (.quiet 19 (.quiet 20 (.quiet 21 (.quiet 22 (.quiet 23 (.quiet 24 (.quiet 25 (.quiet 26 (.quiet 27 (.pure 28 (.pure 30 (.fork3 29 31 34 true true false (.fork2 31 34 true false (.pure 32 (.pure 33 (.one 34 (.quiet 35 (.quiet 36 (.fin)))))) (.quiet 31 (.quiet 32 (.quiet 33 (.quiet 35 (.quiet 36 (.fin))))))) (.fork2 29 34 true false (.pure 32 (.pure 33 (.one 34 (.quiet 35 (.quiet 36 (.fin)))))) (.quiet 29 (.quiet 32 (.quiet 33 (.quiet 35 (.quiet 36 (.fin))))))) (.quiet 29 (.quiet 31 (.quiet 32 (.quiet 33 (.quiet 35 (.quiet 36 (.fin)))))))))))))))))))))))))))))))))))))) (by kernel_rfl) rfl (by kernel_rfl) ?_
    simp only [k7, coreS, Value.cells, Value.oneCell', Nat.reduceAdd, Nat.reduceSub, Nat.reduceMul, Nat.reduceLeDiff, Int.reduceEq, Nat.reduceEqDiff, drawS, treeS, D2Fs44]
    refine cQ_ext _ (fun h' x' => CallsH.mono (fine42 acc cl a1 n1 c1 (ins es e) h' (r2.ext x') l1) fun v h'' q => ⟨q.1, q.2⟩) ?_
    simp only [hck, k0, k1, k2, k7, hlen, hd, decide_true, if_true, coreS, Value.cells, Value.oneCell', Nat.reduceAdd, Nat.reduceSub, Nat.reduceMul, Nat.reduceLeDiff, Int.reduceEq, Nat.reduceEqDiff, drawS, treeS, D2Fs44]
    refine ⟨by have := (chk_ok hck).2.1; rw [inK_i64]; omega, ?_⟩
    have fin : ∀ {H h9 h10 : Eng.Heap}, Ext (h1.push (.cells #[.int .i64 acc, .int .i64 cl, .slice a1 n1 c1] 24)) H → Upd H h9 (h.size + 2) → Ext h9 h10 → (∃ a' n' c', Value.tuple #[.agg #[.int .i64 acc, .int .i64 cl, .slice a1 n1 c1], .bool true, .bool true] = .tuple #[.agg #[.int .i64 acc, .int .i64 cl, .slice a' n' c'], .bool true, .bool true] ∧ Row h10 a' (ensV (pstX acc cl es e)) ∧ n' = (pstX acc cl es e).length) ∧ Ext h h10 := by
      intro H h9 h10 X u x
      refine ⟨⟨a1, n1, c1, rfl, ?_, by rw [hX]; exact l1⟩, (u.ext (y2.trans X) (by omega)).trans x⟩
      rw [hX]
      exact (row_upd (r2.ext X) u (fun p hp => by have := z1 p hp; simp at this; omega)).ext x
    refine execT_fork3 fun h101 x101 => ⟨?_, ?_, ?_⟩
    · try simp only [x101.get k0, x101.get k1, hd, decide_true, if_true, coreS, Value.cells, Value.oneCell', Nat.reduceAdd, Nat.reduceSub, Nat.reduceMul, Nat.reduceLeDiff, Int.reduceEq, Nat.reduceEqDiff, drawS, treeS, D2Fs44]
      refine ⟨by first | (intro _; exact Ext.refl _) | exact Ext.refl _ | trivial, ?_⟩
      refine execT_fork2 fun h102 x102 => ⟨?_, ?_⟩
      · try simp only [(x101.trans x102).get k0, (x101.trans x102).get k1, hd, decide_true, if_true, coreS, Value.cells, Value.oneCell', Nat.reduceAdd, Nat.reduceSub, Nat.reduceMul, Nat.reduceLeDiff, Int.reduceEq, Nat.reduceEqDiff, drawS, treeS, D2Fs44]
        refine ⟨by first | (intro _; exact Ext.refl _) | exact Ext.refl _ | trivial, ?_⟩
        try simp only [hd, decide_true, if_true, coreS, Value.cells, Value.oneCell', Nat.reduceAdd, Nat.reduceSub, Nat.reduceMul, Nat.reduceLeDiff, Int.reduceEq, Nat.reduceEqDiff, drawS, treeS, D2Fs44]
        refine execT_one fun h302 x302 => ?_
        simp only [((x101.trans x102).trans x302).get k2, coreS, Value.cells, Value.oneCell', Nat.reduceAdd, Nat.reduceSub, Nat.reduceMul, Nat.reduceLeDiff, Int.reduceEq, Nat.reduceEqDiff, drawS, treeS, D2Fs44]
        refine stK_abs (((x101.trans x102).trans x302).get k2) (by simp) fun h402 g402 u402 => ?_
        simp only [splice] at g402
        first | refine ⟨by first | (intro hh; cases hh) | trivial, ?_⟩ | skip
        have w0 := u402.get (((x101.trans x102).trans x302).get k0) (by omega)
        have w1 := u402.get (((x101.trans x102).trans x302).get k1) (by omega)
        try simp only [w0, w1, hd, decide_true, if_true, coreS, Value.cells, Value.oneCell', Nat.reduceAdd, Nat.reduceSub, Nat.reduceMul, Nat.reduceLeDiff, Int.reduceEq, Nat.reduceEqDiff, drawS, treeS, D2Fs44]
        refine execT_fin fun h902 x902 => ?_
        simp only [x902.get g402, splice, coreS, Value.cells, Value.oneCell', Nat.reduceAdd, Nat.reduceSub, Nat.reduceMul, Nat.reduceLeDiff, Int.reduceEq, Nat.reduceEqDiff, D2Fs44]
        exact fin ((x101.trans x102).trans x302) u402 x902
      · try simp only [(x101.trans x102).get k2, coreS, Value.cells, Value.oneCell', Nat.reduceAdd, Nat.reduceSub, Nat.reduceMul, Nat.reduceLeDiff, Int.reduceEq, Nat.reduceEqDiff, drawS, treeS, D2Fs44]
        refine stK_abs ((x101.trans x102).get k2) (by simp) fun h402 g402 u402 => ?_
        simp only [splice] at g402
        first | refine ⟨by first | (intro hh; cases hh) | trivial, ?_⟩ | skip
        have w0 := u402.get ((x101.trans x102).get k0) (by omega)
        have w1 := u402.get ((x101.trans x102).get k1) (by omega)
        try simp only [w0, w1, hd, decide_true, if_true, coreS, Value.cells, Value.oneCell', Nat.reduceAdd, Nat.reduceSub, Nat.reduceMul, Nat.reduceLeDiff, Int.reduceEq, Nat.reduceEqDiff, drawS, treeS, D2Fs44]
        refine execT_fin fun h902 x902 => ?_
        simp only [x902.get g402, splice, coreS, Value.cells, Value.oneCell', Nat.reduceAdd, Nat.reduceSub, Nat.reduceMul, Nat.reduceLeDiff, Int.reduceEq, Nat.reduceEqDiff, D2Fs44]
        exact fin (x101.trans x102) u402 x902
    · try simp only [x101.get k0, x101.get k1, hd, decide_true, if_true, coreS, Value.cells, Value.oneCell', Nat.reduceAdd, Nat.reduceSub, Nat.reduceMul, Nat.reduceLeDiff, Int.reduceEq, Nat.reduceEqDiff, drawS, treeS, D2Fs44]
      refine ⟨by first | (intro _; exact Ext.refl _) | exact Ext.refl _ | trivial, ?_⟩
      refine execT_fork2 fun h103 x103 => ⟨?_, ?_⟩
      · try simp only [(x101.trans x103).get k0, (x101.trans x103).get k1, hd, decide_true, if_true, coreS, Value.cells, Value.oneCell', Nat.reduceAdd, Nat.reduceSub, Nat.reduceMul, Nat.reduceLeDiff, Int.reduceEq, Nat.reduceEqDiff, drawS, treeS, D2Fs44]
        refine ⟨by first | (intro _; exact Ext.refl _) | exact Ext.refl _ | trivial, ?_⟩
        try simp only [hd, decide_true, if_true, coreS, Value.cells, Value.oneCell', Nat.reduceAdd, Nat.reduceSub, Nat.reduceMul, Nat.reduceLeDiff, Int.reduceEq, Nat.reduceEqDiff, drawS, treeS, D2Fs44]
        refine execT_one fun h303 x303 => ?_
        simp only [((x101.trans x103).trans x303).get k2, coreS, Value.cells, Value.oneCell', Nat.reduceAdd, Nat.reduceSub, Nat.reduceMul, Nat.reduceLeDiff, Int.reduceEq, Nat.reduceEqDiff, drawS, treeS, D2Fs44]
        refine stK_abs (((x101.trans x103).trans x303).get k2) (by simp) fun h403 g403 u403 => ?_
        simp only [splice] at g403
        first | refine ⟨by first | (intro hh; cases hh) | trivial, ?_⟩ | skip
        have w0 := u403.get (((x101.trans x103).trans x303).get k0) (by omega)
        have w1 := u403.get (((x101.trans x103).trans x303).get k1) (by omega)
        try simp only [w0, w1, hd, decide_true, if_true, coreS, Value.cells, Value.oneCell', Nat.reduceAdd, Nat.reduceSub, Nat.reduceMul, Nat.reduceLeDiff, Int.reduceEq, Nat.reduceEqDiff, drawS, treeS, D2Fs44]
        refine execT_fin fun h903 x903 => ?_
        simp only [x903.get g403, splice, coreS, Value.cells, Value.oneCell', Nat.reduceAdd, Nat.reduceSub, Nat.reduceMul, Nat.reduceLeDiff, Int.reduceEq, Nat.reduceEqDiff, D2Fs44]
        exact fin ((x101.trans x103).trans x303) u403 x903
      · try simp only [(x101.trans x103).get k2, coreS, Value.cells, Value.oneCell', Nat.reduceAdd, Nat.reduceSub, Nat.reduceMul, Nat.reduceLeDiff, Int.reduceEq, Nat.reduceEqDiff, drawS, treeS, D2Fs44]
        refine stK_abs ((x101.trans x103).get k2) (by simp) fun h403 g403 u403 => ?_
        simp only [splice] at g403
        first | refine ⟨by first | (intro hh; cases hh) | trivial, ?_⟩ | skip
        have w0 := u403.get ((x101.trans x103).get k0) (by omega)
        have w1 := u403.get ((x101.trans x103).get k1) (by omega)
        try simp only [w0, w1, hd, decide_true, if_true, coreS, Value.cells, Value.oneCell', Nat.reduceAdd, Nat.reduceSub, Nat.reduceMul, Nat.reduceLeDiff, Int.reduceEq, Nat.reduceEqDiff, drawS, treeS, D2Fs44]
        refine execT_fin fun h903 x903 => ?_
        simp only [x903.get g403, splice, coreS, Value.cells, Value.oneCell', Nat.reduceAdd, Nat.reduceSub, Nat.reduceMul, Nat.reduceLeDiff, Int.reduceEq, Nat.reduceEqDiff, D2Fs44]
        exact fin (x101.trans x103) u403 x903
    · try simp only [x101.get k2, coreS, Value.cells, Value.oneCell', Nat.reduceAdd, Nat.reduceSub, Nat.reduceMul, Nat.reduceLeDiff, Int.reduceEq, Nat.reduceEqDiff, drawS, treeS, D2Fs44]
      refine stK_abs (x101.get k2) (by simp) fun h401 g401 u401 => ?_
      simp only [splice] at g401
      first | refine ⟨by first | (intro hh; cases hh) | trivial, ?_⟩ | skip
      have w0 := u401.get (x101.get k0) (by omega)
      have w1 := u401.get (x101.get k1) (by omega)
      try simp only [w0, w1, hd, decide_true, if_true, coreS, Value.cells, Value.oneCell', Nat.reduceAdd, Nat.reduceSub, Nat.reduceMul, Nat.reduceLeDiff, Int.reduceEq, Nat.reduceEqDiff, drawS, treeS, D2Fs44]
      refine execT_fin fun h901 x901 => ?_
      simp only [x901.get g401, splice, coreS, Value.cells, Value.oneCell', Nat.reduceAdd, Nat.reduceSub, Nat.reduceMul, Nat.reduceLeDiff, Int.reduceEq, Nat.reduceEqDiff, D2Fs44]
      exact fin x101 u401 x901
  · have hX : pstX acc cl es e = es := by rw [pstX, if_neg hp]
    have eL : pstL acc cl es e = [] := by rw [pstL, if_neg hp]
    have hn1 : n1 = 0 := by rw [l1, eL]; rfl
    subst hn1
    simp only [hp, decide_false, Bool.not_false, coreS, stK_some, splice, Value.cells, Value.oneCell', Nat.reduceAdd, Nat.reduceSub, Nat.reduceMul, Nat.reduceLeDiff, Int.reduceEq, Nat.reduceEqDiff, D2Fs44]
    refine WP_tree (by kernel_rfl) sta_eq (.quiet 0 (.pure 1 (.fork2 2 5 true false (.pure 3 (.pure 4 (.one 5 (.quiet 6 (.quiet 7 (.fin)))))) (.quiet 2 (.quiet 3 (.quiet 4 (.quiet 6 (.quiet 7 (.fin))))))))) (by kernel_rfl) rfl (by kernel_rfl) ?_
    have k0 := push_old (o := .cells #[.int .i64 (pstA acc cl es e), .int .i64 (pstC acc cl es e), .slice a1 0 c1] 24) hb0
    have k2 := push_old (o := .cells #[.int .i64 (pstA acc cl es e), .int .i64 (pstC acc cl es e), .slice a1 0 c1] 24) hb2
    have k7 := push_new (h := h1) (o := .cells #[.int .i64 (pstA acc cl es e), .int .i64 (pstC acc cl es e), .slice a1 0 c1] 24)
    have y2 := y1.push (.cells #[.int .i64 (pstA acc cl es e), .int .i64 (pstC acc cl es e), .slice a1 0 c1] 24)
    have fin : ∀ {h9 : Eng.Heap}, Upd (h1.push (.cells #[.int .i64 (pstA acc cl es e), .int .i64 (pstC acc cl es e), .slice a1 0 c1] 24)) h9 (h.size + 2) → (∃ a' n' c', Value.tuple #[.agg #[.int .i64 acc, .int .i64 cl, .slice a n c], .bool false, .bool true] = .tuple #[.agg #[.int .i64 acc, .int .i64 cl, .slice a' n' c'], .bool false, .bool true] ∧ Row h9 a' (ensV (pstX acc cl es e)) ∧ n' = (pstX acc cl es e).length) ∧ Ext h h9 := by
      intro h9 u
      have e := u.ext y2 (by omega)
      exact ⟨⟨a, n, c, rfl, by rw [hX]; exact hr.ext e, by rw [hX]; exact hn⟩, e⟩
    simp only [k0, coreS, Value.cells, Value.oneCell', Nat.reduceAdd, Nat.reduceSub, Nat.reduceMul, Nat.reduceLeDiff, Int.reduceEq, Nat.reduceEqDiff, drawS, treeS, D2Fs44]
    refine execT_fork2E ?_ ?_
    · simp only [k7, coreS, Value.cells, Value.oneCell', Nat.reduceAdd, Nat.reduceSub, Nat.reduceMul, Nat.reduceLeDiff, Int.reduceEq, Nat.reduceEqDiff, drawS, treeS, D2Fs44]
      refine ⟨by first | (intro _; rfl) | rfl | trivial, ?_⟩
      try simp only [coreS, Value.cells, Value.oneCell', Nat.reduceAdd, Nat.reduceSub, Nat.reduceMul, Nat.reduceLeDiff, Int.reduceEq, Nat.reduceEqDiff, drawS, treeS, D2Fs44]
      refine execT_oneE ?_
      simp only [k2, coreS, Value.cells, Value.oneCell', Nat.reduceAdd, Nat.reduceSub, Nat.reduceMul, Nat.reduceLeDiff, Int.reduceEq, Nat.reduceEqDiff, drawS, treeS, D2Fs44]
      refine stK_abs k2 (by simp) fun h9 g9 u9 => ?_
      simp only [splice] at g9
      try simp only [coreS, Value.cells, Value.oneCell', Nat.reduceAdd, Nat.reduceSub, Nat.reduceMul, Nat.reduceLeDiff, Int.reduceEq, Nat.reduceEqDiff, drawS, treeS, D2Fs44]
      refine execT_finE ?_
      simp only [g9, splice, coreS, Value.cells, Value.oneCell', Nat.reduceAdd, Nat.reduceSub, Nat.reduceMul, Nat.reduceLeDiff, Int.reduceEq, Nat.reduceEqDiff, D2Fs44]
      exact fin u9
    · simp only [k2, coreS, Value.cells, Value.oneCell', Nat.reduceAdd, Nat.reduceSub, Nat.reduceMul, Nat.reduceLeDiff, Int.reduceEq, Nat.reduceEqDiff, drawS, treeS, D2Fs44]
      refine stK_abs k2 (by simp) fun h9 g9 u9 => ?_
      simp only [splice] at g9
      first | refine ⟨by first | (intro hh; cases hh) | trivial, ?_⟩ | skip
      have w7 := u9.get k7 (by omega)
      simp only [w7, coreS, Value.cells, Value.oneCell', Nat.reduceAdd, Nat.reduceSub, Nat.reduceMul, Nat.reduceLeDiff, Int.reduceEq, Nat.reduceEqDiff, drawS, treeS, D2Fs44]
      refine execT_finE ?_
      simp only [g9, splice, coreS, Value.cells, Value.oneCell', Nat.reduceAdd, Nat.reduceSub, Nat.reduceMul, Nat.reduceLeDiff, Int.reduceEq, Nat.reduceEqDiff, D2Fs44]
      exact fin u9
end Go.Proofs.YtepaekbjoombpaaGreatDoor
