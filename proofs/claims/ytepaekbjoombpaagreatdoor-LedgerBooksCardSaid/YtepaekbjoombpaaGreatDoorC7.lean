/- LedgerBooks returns true. -/
import Derived.Test.YtepaekbjoombpaaGreatDoorC6
import Derived.Test.YtepaekbjoombpaaGreatDoorC5
import Derived.Test.YtepaekbjoombpaaGreatDoorWork
namespace Go.Proofs.YtepaekbjoombpaaGreatDoor
open Go Go.Proofs Go.Eng Go.Run Tab
set_option maxRecDepth 100000
set_option linter.unusedSimpArgs false
set_option linter.unusedVariables false
set_option maxHeartbeats 4000000
set_option linter.defProp false
def C7Fs3 := (And.intro (And.intro @agg24 (And.intro @agg26 @inf24)) (And.intro (And.intro @inf26 @sz24) (And.intro @sz26 @zero24)))
theorem books3 (acc cl : Int) (a : Option Addr) (n c : Nat) (es : List En) (e : En) (i day : Int) (h : Eng.Heap) (hr : Row h a (ensV es)) (hn : n = es.length ∧ n ≤ c) :
    CallsH Tryz.prog 3 #[.agg #[.int .i64 acc, .int .i64 cl, .slice a n c], .agg #[.int .i64 e.d, .int .i64 e.f, .int .i64 e.t, .int .i64 e.a], .int .i64 i, .int .i64 day] h (fun v h' => v = .bool true ∧ Ext h h') := by
  obtain ⟨hn, hcap⟩ := hn
  refine CallsH_of_exec Tryz.func3 rfl bod3 ?_
  simp only [Tryz.ntmps3, Tryz.results3, coreS, stK_some, splice, Value.cells, Value.oneCell', Nat.reduceAdd, Nat.reduceSub, Nat.reduceMul, Nat.reduceLeDiff, Int.reduceEq, Nat.reduceEqDiff, C7Fs3]
  refine CallsH.mono (great17 acc cl a n c _) ?_
  rintro v h1 ⟨rfl, x1⟩
  have hb1 := x1.get pn0
  have he1 := x1.get pn1
  have y1 := x1.of_push.of_push
  by_cases hg : 26 < (n : Int)
  · simp only [hg, decide_true, coreS, Value.cells, Value.oneCell', Nat.reduceAdd, Nat.reduceSub, Nat.reduceMul, Nat.reduceLeDiff, Int.reduceEq, Nat.reduceEqDiff, C7Fs3]
    refine CallsH.mono (works18 _) ?_
    rintro v h2 ⟨rfl, x2⟩
    simp only [coreS, Value.cells, Value.oneCell', Nat.reduceAdd, Nat.reduceSub, Nat.reduceMul, Nat.reduceLeDiff, Int.reduceEq, Nat.reduceEqDiff, C7Fs3]
    exact y1.trans x2
  have hl : n ≤ 1000000 := by omega
  simp only [hg, hb1, he1, decide_false, coreS, Value.cells, Value.oneCell', Nat.reduceAdd, Nat.reduceSub, Nat.reduceMul, Nat.reduceLeDiff, Int.reduceEq, Nat.reduceEqDiff, C7Fs3]
  refine CallsH.mono (post19 acc cl a n c es e _ (hr.ext y1) hn hl) ?_
  rintro v h2 ⟨⟨a2, n2, c2, rfl, r2, l2, z2⟩, x2⟩
  have hb2 := x2.get hb1
  have he2 := x2.get he1
  have nb2 := Nat.ne_of_lt (lt_of_get hb2)
  have ne2 := Nat.ne_of_lt (lt_of_get he2)
  have k2_2 := push_new (h := h2) (o := (.cells #[.int .i64 (pstA acc cl es e), .int .i64 (pstC acc cl es e), .slice a2 n2 c2] 24))
  have r2_2 := r2.push (.cells #[.int .i64 (pstA acc cl es e), .int .i64 (pstC acc cl es e), .slice a2 n2 c2] 24)
  have y2 := (y1.trans x2).push (.cells #[.int .i64 (pstA acc cl es e), .int .i64 (pstC acc cl es e), .slice a2 n2 c2] 24)
  simp only [nb2, ne2, if_false, hb2, he2, coreS, stK_some, splice, Value.cells, Value.oneCell', Nat.reduceAdd, Nat.reduceSub, Nat.reduceMul, Nat.reduceLeDiff, Int.reduceEq, Nat.reduceEqDiff, C7Fs3]
  have pb2 := push_old (o := (.cells #[.int .i64 (pstA acc cl es e), .int .i64 (pstC acc cl es e), .slice a2 n2 c2] 24)) hb2
  have pe2 := push_old (o := (.cells #[.int .i64 (pstA acc cl es e), .int .i64 (pstC acc cl es e), .slice a2 n2 c2] 24)) he2
  refine CallsH.mono (post20 acc cl a n c es e _ (hr.ext y2) hn hl hcap) ?_
  rintro v h3 ⟨⟨a3, n3, c3, rfl, r3, l3, z3⟩, x3⟩
  have hb3 := x3.get pb2
  have he3 := x3.get pe2
  have nb3 := Nat.ne_of_lt (lt_of_get hb3)
  have ne3 := Nat.ne_of_lt (lt_of_get he3)
  have k2_3 := push_old (o := (.cells #[.int .i64 (pstA acc cl es e), .int .i64 (pstC acc cl es e), .slice a3 n3 c3] 24)) (x3.get k2_2)
  have k3_3 := push_new (h := h3) (o := (.cells #[.int .i64 (pstA acc cl es e), .int .i64 (pstC acc cl es e), .slice a3 n3 c3] 24))
  have r2_3 := (r2_2.ext x3).push (.cells #[.int .i64 (pstA acc cl es e), .int .i64 (pstC acc cl es e), .slice a3 n3 c3] 24)
  have r3_3 := r3.push (.cells #[.int .i64 (pstA acc cl es e), .int .i64 (pstC acc cl es e), .slice a3 n3 c3] 24)
  have y3 := (y2.trans x3).push (.cells #[.int .i64 (pstA acc cl es e), .int .i64 (pstC acc cl es e), .slice a3 n3 c3] 24)
  simp only [nb3, ne3, if_false, hb3, he3, coreS, stK_some, splice, Value.cells, Value.oneCell', Nat.reduceAdd, Nat.reduceSub, Nat.reduceMul, Nat.reduceLeDiff, Int.reduceEq, Nat.reduceEqDiff, C7Fs3]
  have pb3 := push_old (o := (.cells #[.int .i64 (pstA acc cl es e), .int .i64 (pstC acc cl es e), .slice a3 n3 c3] 24)) hb3
  have pe3 := push_old (o := (.cells #[.int .i64 (pstA acc cl es e), .int .i64 (pstC acc cl es e), .slice a3 n3 c3] 24)) he3
  refine CallsH.mono (back21 acc cl a n c es i day _ (hr.ext y3) hn hl) ?_
  rintro v h4 ⟨⟨a4, n4, c4, rfl, r4, l4, z4⟩, x4⟩
  have hb4 := x4.get pb3
  have he4 := x4.get pe3
  have nb4 := Nat.ne_of_lt (lt_of_get hb4)
  have ne4 := Nat.ne_of_lt (lt_of_get he4)
  have k2_4 := push_old (o := (.cells #[.int .i64 (bckA acc cl es i day), .int .i64 (bckC acc cl es i day), .slice a4 n4 c4] 24)) (x4.get k2_3)
  have k3_4 := push_old (o := (.cells #[.int .i64 (bckA acc cl es i day), .int .i64 (bckC acc cl es i day), .slice a4 n4 c4] 24)) (x4.get k3_3)
  have k4_4 := push_new (h := h4) (o := (.cells #[.int .i64 (bckA acc cl es i day), .int .i64 (bckC acc cl es i day), .slice a4 n4 c4] 24))
  have r2_4 := (r2_3.ext x4).push (.cells #[.int .i64 (bckA acc cl es i day), .int .i64 (bckC acc cl es i day), .slice a4 n4 c4] 24)
  have r3_4 := (r3_3.ext x4).push (.cells #[.int .i64 (bckA acc cl es i day), .int .i64 (bckC acc cl es i day), .slice a4 n4 c4] 24)
  have r4_4 := r4.push (.cells #[.int .i64 (bckA acc cl es i day), .int .i64 (bckC acc cl es i day), .slice a4 n4 c4] 24)
  have y4 := (y3.trans x4).push (.cells #[.int .i64 (bckA acc cl es i day), .int .i64 (bckC acc cl es i day), .slice a4 n4 c4] 24)
  simp only [nb4, ne4, if_false, hb4, he4, coreS, stK_some, splice, Value.cells, Value.oneCell', Nat.reduceAdd, Nat.reduceSub, Nat.reduceMul, Nat.reduceLeDiff, Int.reduceEq, Nat.reduceEqDiff, C7Fs3]
  have pb4 := push_old (o := (.cells #[.int .i64 (bckA acc cl es i day), .int .i64 (bckC acc cl es i day), .slice a4 n4 c4] 24)) hb4
  have pe4 := push_old (o := (.cells #[.int .i64 (bckA acc cl es i day), .int .i64 (bckC acc cl es i day), .slice a4 n4 c4] 24)) he4
  refine CallsH.mono (back22 acc cl a n c es i day _ (hr.ext y4) hn hl hcap) ?_
  rintro v h5 ⟨⟨a5, n5, c5, rfl, r5, l5, z5⟩, x5⟩
  have hb5 := x5.get pb4
  have he5 := x5.get pe4
  have nb5 := Nat.ne_of_lt (lt_of_get hb5)
  have ne5 := Nat.ne_of_lt (lt_of_get he5)
  have k2_5 := push_old (o := (.cells #[.int .i64 (bckA acc cl es i day), .int .i64 (bckC acc cl es i day), .slice a5 n5 c5] 24)) (x5.get k2_4)
  have k3_5 := push_old (o := (.cells #[.int .i64 (bckA acc cl es i day), .int .i64 (bckC acc cl es i day), .slice a5 n5 c5] 24)) (x5.get k3_4)
  have k4_5 := push_old (o := (.cells #[.int .i64 (bckA acc cl es i day), .int .i64 (bckC acc cl es i day), .slice a5 n5 c5] 24)) (x5.get k4_4)
  have k5_5 := push_new (h := h5) (o := (.cells #[.int .i64 (bckA acc cl es i day), .int .i64 (bckC acc cl es i day), .slice a5 n5 c5] 24))
  have r2_5 := (r2_4.ext x5).push (.cells #[.int .i64 (bckA acc cl es i day), .int .i64 (bckC acc cl es i day), .slice a5 n5 c5] 24)
  have r3_5 := (r3_4.ext x5).push (.cells #[.int .i64 (bckA acc cl es i day), .int .i64 (bckC acc cl es i day), .slice a5 n5 c5] 24)
  have r4_5 := (r4_4.ext x5).push (.cells #[.int .i64 (bckA acc cl es i day), .int .i64 (bckC acc cl es i day), .slice a5 n5 c5] 24)
  have r5_5 := r5.push (.cells #[.int .i64 (bckA acc cl es i day), .int .i64 (bckC acc cl es i day), .slice a5 n5 c5] 24)
  have y5 := (y4.trans x5).push (.cells #[.int .i64 (bckA acc cl es i day), .int .i64 (bckC acc cl es i day), .slice a5 n5 c5] 24)
  simp only [nb5, ne5, if_false, hb5, he5, coreS, stK_some, splice, Value.cells, Value.oneCell', Nat.reduceAdd, Nat.reduceSub, Nat.reduceMul, Nat.reduceLeDiff, Int.reduceEq, Nat.reduceEqDiff, C7Fs3]
  have pb5 := push_old (o := (.cells #[.int .i64 (bckA acc cl es i day), .int .i64 (bckC acc cl es i day), .slice a5 n5 c5] 24)) hb5
  have pe5 := push_old (o := (.cells #[.int .i64 (bckA acc cl es i day), .int .i64 (bckC acc cl es i day), .slice a5 n5 c5] 24)) he5
  refine CallsH.mono (close23 acc cl a n c es day _ (hr.ext y5) hn hl) ?_
  rintro v h6 ⟨⟨a6, n6, c6, rfl, r6, l6⟩, x6⟩
  have hb6 := x6.get pb5
  have he6 := x6.get pe5
  have nb6 := Nat.ne_of_lt (lt_of_get hb6)
  have ne6 := Nat.ne_of_lt (lt_of_get he6)
  have k2_6 := push_old (o := (.cells #[.int .i64 (clsA acc cl es day), .int .i64 (clsC acc cl es day), .slice a6 n6 c6] 24)) (x6.get k2_5)
  have k3_6 := push_old (o := (.cells #[.int .i64 (clsA acc cl es day), .int .i64 (clsC acc cl es day), .slice a6 n6 c6] 24)) (x6.get k3_5)
  have k4_6 := push_old (o := (.cells #[.int .i64 (clsA acc cl es day), .int .i64 (clsC acc cl es day), .slice a6 n6 c6] 24)) (x6.get k4_5)
  have k5_6 := push_old (o := (.cells #[.int .i64 (clsA acc cl es day), .int .i64 (clsC acc cl es day), .slice a6 n6 c6] 24)) (x6.get k5_5)
  have k6_6 := push_new (h := h6) (o := (.cells #[.int .i64 (clsA acc cl es day), .int .i64 (clsC acc cl es day), .slice a6 n6 c6] 24))
  have r2_6 := (r2_5.ext x6).push (.cells #[.int .i64 (clsA acc cl es day), .int .i64 (clsC acc cl es day), .slice a6 n6 c6] 24)
  have r3_6 := (r3_5.ext x6).push (.cells #[.int .i64 (clsA acc cl es day), .int .i64 (clsC acc cl es day), .slice a6 n6 c6] 24)
  have r4_6 := (r4_5.ext x6).push (.cells #[.int .i64 (clsA acc cl es day), .int .i64 (clsC acc cl es day), .slice a6 n6 c6] 24)
  have r5_6 := (r5_5.ext x6).push (.cells #[.int .i64 (clsA acc cl es day), .int .i64 (clsC acc cl es day), .slice a6 n6 c6] 24)
  have r6_6 := r6.push (.cells #[.int .i64 (clsA acc cl es day), .int .i64 (clsC acc cl es day), .slice a6 n6 c6] 24)
  have y6 := (y5.trans x6).push (.cells #[.int .i64 (clsA acc cl es day), .int .i64 (clsC acc cl es day), .slice a6 n6 c6] 24)
  simp only [nb6, ne6, if_false, hb6, he6, coreS, stK_some, splice, Value.cells, Value.oneCell', Nat.reduceAdd, Nat.reduceSub, Nat.reduceMul, Nat.reduceLeDiff, Int.reduceEq, Nat.reduceEqDiff, C7Fs3]
  have pb6 := push_old (o := (.cells #[.int .i64 (clsA acc cl es day), .int .i64 (clsC acc cl es day), .slice a6 n6 c6] 24)) hb6
  have pe6 := push_old (o := (.cells #[.int .i64 (clsA acc cl es day), .int .i64 (clsC acc cl es day), .slice a6 n6 c6] 24)) he6
  refine CallsH.mono (close24 acc cl a n c es day _ (hr.ext y6) hn hl) ?_
  rintro v h7 ⟨⟨a7, n7, c7, rfl, r7, l7⟩, x7⟩
  have hb7 := x7.get pb6
  have he7 := x7.get pe6
  have nb7 := Nat.ne_of_lt (lt_of_get hb7)
  have ne7 := Nat.ne_of_lt (lt_of_get he7)
  have k2_7 := push_old (o := (.cells #[.int .i64 (clsA acc cl es day), .int .i64 (clsC acc cl es day), .slice a7 n7 c7] 24)) (x7.get k2_6)
  have k3_7 := push_old (o := (.cells #[.int .i64 (clsA acc cl es day), .int .i64 (clsC acc cl es day), .slice a7 n7 c7] 24)) (x7.get k3_6)
  have k4_7 := push_old (o := (.cells #[.int .i64 (clsA acc cl es day), .int .i64 (clsC acc cl es day), .slice a7 n7 c7] 24)) (x7.get k4_6)
  have k5_7 := push_old (o := (.cells #[.int .i64 (clsA acc cl es day), .int .i64 (clsC acc cl es day), .slice a7 n7 c7] 24)) (x7.get k5_6)
  have k6_7 := push_old (o := (.cells #[.int .i64 (clsA acc cl es day), .int .i64 (clsC acc cl es day), .slice a7 n7 c7] 24)) (x7.get k6_6)
  have k7_7 := push_new (h := h7) (o := (.cells #[.int .i64 (clsA acc cl es day), .int .i64 (clsC acc cl es day), .slice a7 n7 c7] 24))
  have r2_7 := (r2_6.ext x7).push (.cells #[.int .i64 (clsA acc cl es day), .int .i64 (clsC acc cl es day), .slice a7 n7 c7] 24)
  have r3_7 := (r3_6.ext x7).push (.cells #[.int .i64 (clsA acc cl es day), .int .i64 (clsC acc cl es day), .slice a7 n7 c7] 24)
  have r4_7 := (r4_6.ext x7).push (.cells #[.int .i64 (clsA acc cl es day), .int .i64 (clsC acc cl es day), .slice a7 n7 c7] 24)
  have r5_7 := (r5_6.ext x7).push (.cells #[.int .i64 (clsA acc cl es day), .int .i64 (clsC acc cl es day), .slice a7 n7 c7] 24)
  have r6_7 := (r6_6.ext x7).push (.cells #[.int .i64 (clsA acc cl es day), .int .i64 (clsC acc cl es day), .slice a7 n7 c7] 24)
  have r7_7 := r7.push (.cells #[.int .i64 (clsA acc cl es day), .int .i64 (clsC acc cl es day), .slice a7 n7 c7] 24)
  have y7 := (y6.trans x7).push (.cells #[.int .i64 (clsA acc cl es day), .int .i64 (clsC acc cl es day), .slice a7 n7 c7] 24)
  simp only [nb7, ne7, if_false, hb7, he7, coreS, stK_some, splice, Value.cells, Value.oneCell', Nat.reduceAdd, Nat.reduceSub, Nat.reduceMul, Nat.reduceLeDiff, Int.reduceEq, Nat.reduceEqDiff, C7Fs3]
  have pb7 := push_old (o := (.cells #[.int .i64 (clsA acc cl es day), .int .i64 (clsC acc cl es day), .slice a7 n7 c7] 24)) hb7
  have pe7 := push_old (o := (.cells #[.int .i64 (clsA acc cl es day), .int .i64 (clsC acc cl es day), .slice a7 n7 c7] 24)) he7
  have lp : (pstL acc cl es e).length ≤ 1000000 := by
    unfold pstL; split
    · rw [ins_length]; omega
    · simp
  have lb : (bckL acc cl es i day).length ≤ 1000000 := by
    unfold bckL; split
    · rw [ins_length]; omega
    · simp
  have lc : (clsL acc cl es day).length ≤ 1000000 := by
    unfold clsL; split
    · omega
    · simp
  refine WP_draw (by kernel_rfl) sta_ext [(0, 0), (1, 0), (2, 0), (3, 0), (4, 0), (5, 0), (6, 0), (7, 0), (8, 0), (9, 0), (10, 0), (11, 0), (12, 0), (13, 0), (14, 0), (15, 0), (16, 0), (17, 0), (18, 0), (19, 0), (20, 0), (21, 0), (22, 0), (23, 0), (24, 0), (25, 0), (26, 0), (27, 0), (28, 0), (29, 0), (30, 0), (31, 0), (32, 0), (33, 0), (34, 0), (35, 0), (36, 0), (37, 0), (38, 0)] (by kernel_rfl) rfl (by kernel_rfl) ?_
  simp only [pb7, k2_7, k3_7, k4_7, k5_7, k6_7, k7_7, coreS, Value.cells, Value.oneCell', Nat.reduceAdd, Nat.reduceSub, Nat.reduceMul, Nat.reduceLeDiff, Int.reduceEq, Nat.reduceEqDiff, drawS, C7Fs3]
  refine cQ_ext _ (fun h' x' => CallsH.mono (check25 acc cl a n c es h' (hr.ext (y7.trans x')) hn hl) fun v h'' q => ⟨q.1, q.2⟩) ?_
  simp only [pb7, k2_7, k3_7, k4_7, k5_7, k6_7, k7_7, coreS, Value.cells, Value.oneCell', Nat.reduceAdd, Nat.reduceSub, Nat.reduceMul, Nat.reduceLeDiff, Int.reduceEq, Nat.reduceEqDiff, drawS, C7Fs3]
  refine cQ_ext _ (fun h' x' => CallsH.mono (check26 acc cl a n c es h' (hr.ext (y7.trans x')) hn hl) fun v h'' q => ⟨q.1, q.2⟩) ?_
  simp only [pb7, k2_7, k3_7, k4_7, k5_7, k6_7, k7_7, decide_true, coreS, Value.cells, Value.oneCell', Nat.reduceAdd, Nat.reduceSub, Nat.reduceMul, Nat.reduceLeDiff, Int.reduceEq, Nat.reduceEqDiff, drawS, C7Fs3]
  refine cQ_ext _ (fun h' x' => CallsH.mono (same27 _ _ _ _ a2 a3 n2 c2 n3 c3 _ _ h' (r2_7.ext x') (r3_7.ext x') l2 l3 (by omega) (by omega)) fun v h'' q => ⟨q.1, q.2⟩) ?_
  simp only [pb7, k2_7, k3_7, k4_7, k5_7, k6_7, k7_7, and_self, decide_true, coreS, Value.cells, Value.oneCell', Nat.reduceAdd, Nat.reduceSub, Nat.reduceMul, Nat.reduceLeDiff, Int.reduceEq, Nat.reduceEqDiff, drawS, C7Fs3]
  refine cQ_ext _ (fun h' x' => CallsH.mono (same27 _ _ _ _ a4 a5 n4 c4 n5 c5 _ _ h' (r4_7.ext x') (r5_7.ext x') l4 l5 (by omega) (by omega)) fun v h'' q => ⟨q.1, q.2⟩) ?_
  simp only [pb7, k2_7, k3_7, k4_7, k5_7, k6_7, k7_7, and_self, decide_true, coreS, Value.cells, Value.oneCell', Nat.reduceAdd, Nat.reduceSub, Nat.reduceMul, Nat.reduceLeDiff, Int.reduceEq, Nat.reduceEqDiff, drawS, C7Fs3]
  refine cQ_ext _ (fun h' x' => CallsH.mono (same27 _ _ _ _ a6 a7 n6 c6 n7 c7 _ _ h' (r6_7.ext x') (r7_7.ext x') l6 l7 (by omega) (by omega)) fun v h'' q => ⟨q.1, q.2⟩) ?_
  simp only [pb7, k2_7, k3_7, k4_7, k5_7, k6_7, k7_7, and_self, decide_true, coreS, Value.cells, Value.oneCell', Nat.reduceAdd, Nat.reduceSub, Nat.reduceMul, Nat.reduceLeDiff, Int.reduceEq, Nat.reduceEqDiff, drawS, C7Fs3]
  refine cQ_ext _ (fun h' x' => CallsH.mono (works18 h') fun v h'' q => ⟨q.1, q.2⟩) ?_
  simp only [coreS, Value.cells, Value.oneCell', Nat.reduceAdd, Nat.reduceSub, Nat.reduceMul, Nat.reduceLeDiff, Int.reduceEq, Nat.reduceEqDiff, drawS, C7Fs3]
  refine hvK_mk fun h8 x8 => ?_
  simp only [coreS, Value.cells, Value.oneCell', Nat.reduceAdd, Nat.reduceSub, Nat.reduceMul, Nat.reduceLeDiff, Int.reduceEq, Nat.reduceEqDiff, C7Fs3]
  exact y7.trans x8
end Go.Proofs.YtepaekbjoombpaaGreatDoor
