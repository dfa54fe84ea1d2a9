/- LedgerClosed returns true. -/
import Derived.Test.YtepaekbjoombpaaGreatDoorD2
import Derived.Test.YtepaekbjoombpaaGreatDoorC5
import Derived.Test.YtepaekbjoombpaaGreatDoorWork
import Derived.Test.YtepaekbjoombpaaGreatDoorC6
namespace Go.Proofs.YtepaekbjoombpaaGreatDoor
open Go Go.Proofs Go.Eng Go.Run Tab
set_option maxRecDepth 100000
set_option linter.unusedSimpArgs false
set_option linter.unusedVariables false
set_option maxHeartbeats 4000000
set_option linter.defProp false
def E3Fs9 := (And.intro (And.intro (And.intro (And.intro @agg22 @agg24) (And.intro @agg26 @agg3)) (And.intro (And.intro @fo24_1 @fo24_2) (And.intro @fo26_0 (And.intro @inf22 @inf24)))) (And.intro (And.intro (And.intro @inf26 @inf3) (And.intro @sz22 (And.intro @sz24 @sz26))) (And.intro (And.intro @sz3 @zero24) (And.intro @Tryz.underlying3 (And.intro @Tryz.underlying5 @Tryz.underlying22)))))
theorem closed9 (acc cl : Int) (a : Option Addr) (n c : Nat) (es : List En) (e : En) (which on number : Int) (h : Eng.Heap) (hr : Row h a (ensV es)) (hn : n = es.length) (hw : 0 ≤ which ∧ which ≤ 255) (ho : 0 ≤ on ∧ on ≤ 255) (hnum : 0 ≤ number ∧ number ≤ 255) :
    CallsH Tryz.prog 9 #[.agg #[.int .i64 acc, .int .i64 cl, .slice a n c], .agg #[.int .i64 e.d, .int .i64 e.f, .int .i64 e.t, .int .i64 e.a], .int .u8 which, .int .u8 on, .int .u8 number] h (fun v h' => v = .bool true ∧ Ext h h') := by
  refine CallsH_of_exec Tryz.func9 rfl bod9 ?_
  simp only [Tryz.ntmps9, Tryz.results9, coreS, stK_some, splice, Value.cells, Value.oneCell', Nat.reduceAdd, Nat.reduceSub, Nat.reduceMul, Nat.reduceLeDiff, Int.reduceEq, Nat.reduceEqDiff, E3Fs9]
  have q0 := pn0 (h := h) (o := .cells #[.int .i64 acc, .int .i64 cl, .slice a n c] 24) (o' := .cells #[.int .i64 e.d, .int .i64 e.f, .int .i64 e.t, .int .i64 e.a] 26)
  have q1 := pn1 (h := h) (o := .cells #[.int .i64 acc, .int .i64 cl, .slice a n c] 24) (o' := .cells #[.int .i64 e.d, .int .i64 e.f, .int .i64 e.t, .int .i64 e.a] 26)
  refine CallsH.mono (fine42 acc cl a n c es _ ((hr.push _).push _) hn) ?_
  rintro v h1 ⟨rfl, x1⟩
  have hb1 := x1.get q0
  have he1 := x1.get q1
  have y1 := x1.of_push.of_push
  have works : ∀ {h2 : Eng.Heap}, Ext h h2 → CallsH Tryz.prog 18 #[] h2 (fun v h' => v = .bool true ∧ Ext h h') := fun x => CallsH.mono (works18 _) fun v h' q => ⟨q.1, x.trans q.2⟩
  by_cases hc : chk acc cl es = 0
  · obtain ⟨hac, hl20, hcl, hok, hso, hft⟩ := chk_ok hc
    have hl : n ≤ 1000000 := by omega
    obtain ⟨k, rfl⟩ : ∃ k : Nat, acc = k := ⟨acc.toNat, by omega⟩
    obtain ⟨day, hday⟩ : ∃ d, d = number.tmod (cl + 1) := ⟨_, rfl⟩
    have hdc : 0 ≤ day ∧ day ≤ cl := by
      subst hday
      rw [Int.tmod_eq_emod_of_nonneg hnum.1]
      have := Int.emod_nonneg number (show cl + 1 ≠ 0 by omega)
      have := Int.emod_lt_of_pos number (show 0 < cl + 1 by omega)
      omega
    have hd30 : 0 ≤ day ∧ day ≤ 30 := by omega
    simp only [hc, hb1, ← hday, decide_true, Bool.not_true, coreS, Value.cells, Value.oneCell', Nat.reduceAdd, Nat.reduceSub, Nat.reduceMul, Nat.reduceLeDiff, Int.reduceEq, Nat.reduceEqDiff, E3Fs9]
    refine ⟨by rw [inK_i64]; omega, by rw [inK_i64]; omega, by omega, ?_⟩
    refine CallsH.mono (balances45 k cl a n c es day _ (hr.ext y1) hn hl) ?_
    rintro v h2 ⟨⟨b2, m2, c2, rfl, I2, hm2⟩, x2⟩
    rw [balsR_ok hc hd30, Int.toNat_natCast] at I2
    have hb2 := x2.get hb1
    have he2 := x2.get he1
    have y2 := y1.trans x2
    simp only [hb2, opn_of hc hd30, decide_true, coreS, Value.cells, Value.oneCell', Nat.reduceAdd, Nat.reduceSub, Nat.reduceMul, Nat.reduceLeDiff, Int.reduceEq, Nat.reduceEqDiff, E3Fs9]
    refine CallsH.mono (close23 k cl a n c es cl _ (hr.ext y2) hn hl) ?_
    rintro v h3 ⟨⟨a3, n3, c3, rfl, r3, l3⟩, x3⟩
    have hk0 : cls k cl es cl = 0 := by
      unfold cls
      rw [if_neg (by rw [opn_of hc (by omega)]; simp), if_neg (by omega)]
    have eA : clsA k cl es cl = k := by rw [clsA, if_pos hk0]
    have eC : clsC k cl es cl = cl := by rw [clsC, if_pos hk0]
    have eL : clsL k cl es cl = es := by rw [clsL, if_pos hk0]
    rw [eL] at r3 l3
    have hb3 := x3.get hb2
    have he3 := x3.get he2
    have y3 := y2.trans x3
    have I3 := I2.ext x3
    simp only [eA, eC, hk0, Nat.ne_of_lt (lt_of_get hb3), Nat.ne_of_lt (lt_of_get he3), hb3, he3, if_false, decide_true, Bool.not_true, coreS, stK_some, splice, Value.cells, Value.oneCell', Nat.reduceAdd, Nat.reduceSub, Nat.reduceMul, Nat.reduceLeDiff, Int.reduceEq, Nat.reduceEqDiff, E3Fs9]
    have z3 := y3.push (.cells #[.int .i64 k, .int .i64 cl, .slice a3 n3 c3] 24)
    have m3b := push_old (o := .cells #[.int .i64 k, .int .i64 cl, .slice a3 n3 c3] 24) hb3
    have m3e := push_old (o := .cells #[.int .i64 k, .int .i64 cl, .slice a3 n3 c3] 24) he3
    refine CallsH.mono (same27 _ _ _ _ a3 a n3 c3 n c es es _ (r3.push _) (hr.ext z3) l3 hn (by omega) hl) ?_
    rintro v h4 ⟨rfl, x4⟩
    have hb4 := x4.get m3b
    have he4 := x4.get m3e
    have y4 := z3.trans x4
    have I4 := (I3.push (.cells #[.int .i64 k, .int .i64 cl, .slice a3 n3 c3] 24)).ext x4
    simp only [hb4, he4, and_self, decide_true, Bool.not_true, coreS, Value.cells, Value.oneCell', Nat.reduceAdd, Nat.reduceSub, Nat.reduceMul, Nat.reduceLeDiff, Int.reduceEq, Nat.reduceEqDiff, E3Fs9]
    refine CallsH.mono (posted44 k cl a n c es e _ (hr.ext y4) hn hl) ?_
    rintro v h5 ⟨⟨a5, n5, c5, rfl, r5, l5⟩, x5⟩
    have hb5 := x5.get hb4
    have he5 := x5.get he4
    have y5 := y4.trans x5
    have I5 := I4.ext x5
    simp only [Nat.ne_of_lt (lt_of_get hb5), Nat.ne_of_lt (lt_of_get he5), hb5, he5, if_false, decide_true, Bool.not_true, coreS, stK_some, splice, Value.cells, Value.oneCell', Nat.reduceAdd, Nat.reduceSub, Nat.reduceMul, Nat.reduceLeDiff, Int.reduceEq, Nat.reduceEqDiff, E3Fs9]
    have z5 := y5.push (.cells #[.int .i64 k, .int .i64 cl, .slice a5 n5 c5] 24)
    have m5b := push_old (o := .cells #[.int .i64 k, .int .i64 cl, .slice a5 n5 c5] 24) hb5
    have m5e := push_old (o := .cells #[.int .i64 k, .int .i64 cl, .slice a5 n5 c5] 24) he5
    have hcx := chk_pstX (e := e) hc
    have hlx := (chk_ok hcx).2.1
    refine CallsH.mono (balances45 k cl a5 n5 c5 (pstX k cl es e) day _ (r5.push _) l5 (by omega)) ?_
    rintro v h6 ⟨⟨b6, m6, c6, rfl, I6, hm6⟩, x6⟩
    rw [balsR_ok hcx hd30, Int.toNat_natCast, bals_pstX k hdc.2] at I6
    have hb6 := x6.get m5b
    have he6 := x6.get m5e
    have y6 := z5.trans x6
    have I6' := (I5.push (.cells #[.int .i64 k, .int .i64 cl, .slice a5 n5 c5] 24)).ext x6
    simp only [opn_of hcx hd30, decide_true, Bool.not_true, coreS, Value.cells, Value.oneCell', Nat.reduceAdd, Nat.reduceSub, Nat.reduceMul, Nat.reduceLeDiff, Int.reduceEq, Nat.reduceEqDiff, E3Fs9]
    refine CallsH.mono (longs32 b2 b6 m2 c2 m6 c6 _ _ _ I6' I6 (by omega) (by omega)) ?_
    rintro v h7 ⟨rfl, rfl⟩
    have hnp : ∀ h : pst k cl es e = 0, ¬ e.d ≤ cl := fun h => by have := (pst_iff.1 h).2.2.2.1; omega
    have go2 : True := trivial
    by_cases hp : pst k cl es e = 0
    · simp only [hp, hnp hp, hb6, he6, decide_true, decide_false, Bool.not_true, coreS, Value.cells, Value.oneCell', Nat.reduceAdd, Nat.reduceSub, Nat.reduceMul, Nat.reduceLeDiff, Int.reduceEq, Nat.reduceEqDiff, E3Fs9]
      refine ⟨fun h0 => ?_, fun h0 => ?_⟩
      · refine CallsH.mono (works y6) ?_
        rintro v h8 ⟨rfl, x8⟩
        simp only [coreS, Value.cells, Value.oneCell', Nat.reduceAdd, Nat.reduceSub, Nat.reduceMul, Nat.reduceLeDiff, Int.reduceEq, Nat.reduceEqDiff, E3Fs9]
        exact x8
      have hn0 : (n : Int) ≠ 0 := h0
      refine WP_tree (by kernel_rfl) sta_ext (.quiet 0 (.quiet 1 (.quiet 2 (.quiet 3 (.quiet 4 (.quiet 5 (.quiet 6 (.quiet 7 (.quiet 8 (.fork2 9 13 true true (.quiet 10 (.quiet 11 (.pure 12 (.keep 13 (.one 14 (.quiet 15 (.fin))))))) (.keep 9 (.quiet 10 (.quiet 11 (.pure 12 (.one 14 (.quiet 15 (.fin))))))))))))))))) (by kernel_rfl) rfl (by kernel_rfl) ?_
      simp only [hb6, coreS, Value.cells, Value.oneCell', Nat.reduceAdd, Nat.reduceSub, Nat.reduceMul, Nat.reduceLeDiff, Int.reduceEq, Nat.reduceEqDiff, drawS, treeS, E3Fs9]
      refine ⟨by rw [inK_i64]; omega, hn0, ?_⟩
      refine cQ_ext _ (fun h' x' => CallsH.mono (day43 on h' ho) fun v h'' q => ⟨q.1, by rw [q.2]; exact Ext.refl _⟩) ?_
      try simp only [coreS, Value.cells, Value.oneCell', Nat.reduceAdd, Nat.reduceSub, Nat.reduceMul, Nat.reduceLeDiff, Int.reduceEq, Nat.reduceEqDiff, drawS, treeS, E3Fs9]
      refine execT_fork2 fun h8 x8 => ⟨?_, ?_⟩
      · simp only [coreS, Value.cells, Value.oneCell', Nat.reduceAdd, Nat.reduceSub, Nat.reduceMul, Nat.reduceLeDiff, Int.reduceEq, Nat.reduceEqDiff, drawS, treeS, E3Fs9]
        refine CallsH.mono (back21 k cl a n c es (which.tmod n) (on.tmod 31) h8 (hr.ext (y6.trans x8)) hn hl) ?_
        rintro v h9 ⟨⟨aB, nB, cB, rfl, rB0, lB, zB⟩, x9⟩
        refine ⟨x9, ?_⟩
        simp only [coreS, Value.cells, Value.oneCell', Nat.reduceAdd, Nat.reduceSub, Nat.reduceMul, Nat.reduceLeDiff, Int.reduceEq, Nat.reduceEqDiff, drawS, treeS, E3Fs9]
        refine execT_keep fun h10 x10 => ?_
        simp only [coreS, Value.cells, Value.oneCell', Nat.reduceAdd, Nat.reduceSub, Nat.reduceMul, Nat.reduceLeDiff, Int.reduceEq, Nat.reduceEqDiff, drawS, treeS, E3Fs9]
        refine ⟨(Ext.refl h10).push _, ?_⟩
        refine execT_one fun h11 x11 => ?_
        have t11 := x11.get (push_new (h := h10))
        simp only [t11, coreS, Value.cells, Value.oneCell', Nat.reduceAdd, Nat.reduceSub, Nat.reduceMul, Nat.reduceLeDiff, Int.reduceEq, Nat.reduceEqDiff, drawS, treeS, E3Fs9]
        refine stK_abs t11 (by simp) fun h12 g12 u12 => ?_
        simp only [splice] at g12
        have xx12 : Ext h10 h12 := u12.ext x11.of_push (Nat.le_refl _)
        try simp only [coreS, Value.cells, Value.oneCell', Nat.reduceAdd, Nat.reduceSub, Nat.reduceMul, Nat.reduceLeDiff, Int.reduceEq, Nat.reduceEqDiff, drawS, treeS, E3Fs9]
        refine execT_fin fun h13 x13 => ?_
        have YF : Ext h7 h13 := ((x8.trans (x9.trans x10)).trans xx12).trans x13
        have kB := x13.get g12
        have rB := ((rB0.ext x10).ext xx12).ext x13
        simp only [kB, splice, coreS, Value.cells, Value.oneCell', Nat.reduceAdd, Nat.reduceSub, Nat.reduceMul, Nat.reduceLeDiff, Int.reduceEq, Nat.reduceEqDiff, E3Fs9]
        by_cases hb : bck k cl es (which.tmod n) (on.tmod 31) = 0
        · obtain ⟨_, _, _, hpp, eA, eC, eL⟩ := bck_ok hb
          rw [eL] at rB lB
          have hcy := chk_pstX (e := bkE es (which.tmod n) (on.tmod 31)) hc
          have hly := (chk_ok hcy).2.1
          simp only [hb, eA, eC, decide_true, Bool.not_true, coreS, Value.cells, Value.oneCell', Nat.reduceAdd, Nat.reduceSub, Nat.reduceMul, Nat.reduceLeDiff, Int.reduceEq, Nat.reduceEqDiff, E3Fs9]
          refine CallsH.mono (fine42 k cl aB nB cB _ _ rB lB) ?_
          rintro v hC ⟨rfl, xC⟩
          simp only [hcy, xC.get (by rw [eA, eC] at kB; exact kB), decide_true, Bool.not_true, coreS, Value.cells, Value.oneCell', Nat.reduceAdd, Nat.reduceSub, Nat.reduceMul, Nat.reduceLeDiff, Int.reduceEq, Nat.reduceEqDiff, E3Fs9]
          refine CallsH.mono (balances45 k cl aB nB cB _ day _ (rB.ext xC) lB (by omega)) ?_
          rintro v hD ⟨⟨bD, mD, cD, rfl, ID, hmD⟩, xD⟩
          rw [balsR_ok hcy hd30, Int.toNat_natCast, bals_pstX k hdc.2] at ID
          simp only [opn_of hcy hd30, decide_true, coreS, Value.cells, Value.oneCell', Nat.reduceAdd, Nat.reduceSub, Nat.reduceMul, Nat.reduceLeDiff, Int.reduceEq, Nat.reduceEqDiff, E3Fs9]
          refine CallsH.mono (longs32 b2 bD m2 c2 mD cD _ _ _ ((I6'.ext YF).ext (xC.trans xD)) ID (by omega) (by omega)) ?_
          rintro v hE ⟨rfl, rfl⟩
          simp only [decide_true, coreS, Value.cells, Value.oneCell', Nat.reduceAdd, Nat.reduceSub, Nat.reduceMul, Nat.reduceLeDiff, Int.reduceEq, Nat.reduceEqDiff, E3Fs9]
          refine CallsH.mono (works ((y6.trans YF).trans (xC.trans xD))) ?_
          rintro v hF ⟨rfl, xF⟩
          simp only [coreS, Value.cells, Value.oneCell', Nat.reduceAdd, Nat.reduceSub, Nat.reduceMul, Nat.reduceLeDiff, Int.reduceEq, Nat.reduceEqDiff, E3Fs9]
          exact xF
        · simp only [hb, decide_false, Bool.not_false, coreS, Value.cells, Value.oneCell', Nat.reduceAdd, Nat.reduceSub, Nat.reduceMul, Nat.reduceLeDiff, Int.reduceEq, Nat.reduceEqDiff, E3Fs9]
          refine CallsH.mono (works (y6.trans YF)) ?_
          rintro v hC ⟨rfl, xC⟩
          simp only [coreS, Value.cells, Value.oneCell', Nat.reduceAdd, Nat.reduceSub, Nat.reduceMul, Nat.reduceLeDiff, Int.reduceEq, Nat.reduceEqDiff, E3Fs9]
          exact xC
      · simp only [coreS, Value.cells, Value.oneCell', Nat.reduceAdd, Nat.reduceSub, Nat.reduceMul, Nat.reduceLeDiff, Int.reduceEq, Nat.reduceEqDiff, drawS, treeS, E3Fs9]
        refine ⟨(Ext.refl h8).push _, ?_⟩
        refine execT_keep fun h9 x9 => ?_
        simp only [coreS, Value.cells, Value.oneCell', Nat.reduceAdd, Nat.reduceSub, Nat.reduceMul, Nat.reduceLeDiff, Int.reduceEq, Nat.reduceEqDiff, drawS, treeS, E3Fs9]
        refine CallsH.mono (back21 k cl a n c es (which.tmod n) (on.tmod 31) h9 (hr.ext (y6.trans (x8.trans x9.of_push))) hn hl) ?_
        rintro v h10 ⟨⟨aB, nB, cB, rfl, rB0, lB, zB⟩, x10⟩
        refine ⟨x10, ?_⟩
        simp only [coreS, Value.cells, Value.oneCell', Nat.reduceAdd, Nat.reduceSub, Nat.reduceMul, Nat.reduceLeDiff, Int.reduceEq, Nat.reduceEqDiff, drawS, treeS, E3Fs9]
        refine execT_one fun h11 x11 => ?_
        have t11 := x11.get (x10.get (x9.get (push_new (h := h8))))
        simp only [t11, coreS, Value.cells, Value.oneCell', Nat.reduceAdd, Nat.reduceSub, Nat.reduceMul, Nat.reduceLeDiff, Int.reduceEq, Nat.reduceEqDiff, drawS, treeS, E3Fs9]
        refine stK_abs t11 (by simp) fun h12 g12 u12 => ?_
        simp only [splice] at g12
        have xx12 : Ext h8 h12 := u12.ext (x9.of_push.trans (x10.trans x11)) (Nat.le_refl _)
        have s8 : h8.size < h9.size := by have := x9.size; simp at this; omega
        try simp only [coreS, Value.cells, Value.oneCell', Nat.reduceAdd, Nat.reduceSub, Nat.reduceMul, Nat.reduceLeDiff, Int.reduceEq, Nat.reduceEqDiff, drawS, treeS, E3Fs9]
        refine execT_fin fun h13 x13 => ?_
        have YF : Ext h7 h13 := (x8.trans xx12).trans x13
        have kB := x13.get g12
        have rB := (row_upd (rB0.ext x11) u12 (fun p hp => by have := zB p hp; omega)).ext x13
        simp only [kB, splice, coreS, Value.cells, Value.oneCell', Nat.reduceAdd, Nat.reduceSub, Nat.reduceMul, Nat.reduceLeDiff, Int.reduceEq, Nat.reduceEqDiff, E3Fs9]
        by_cases hb : bck k cl es (which.tmod n) (on.tmod 31) = 0
        · obtain ⟨_, _, _, hpp, eA, eC, eL⟩ := bck_ok hb
          rw [eL] at rB lB
          have hcy := chk_pstX (e := bkE es (which.tmod n) (on.tmod 31)) hc
          have hly := (chk_ok hcy).2.1
          simp only [hb, eA, eC, decide_true, Bool.not_true, coreS, Value.cells, Value.oneCell', Nat.reduceAdd, Nat.reduceSub, Nat.reduceMul, Nat.reduceLeDiff, Int.reduceEq, Nat.reduceEqDiff, E3Fs9]
          refine CallsH.mono (fine42 k cl aB nB cB _ _ rB lB) ?_
          rintro v hC ⟨rfl, xC⟩
          simp only [hcy, xC.get (by rw [eA, eC] at kB; exact kB), decide_true, Bool.not_true, coreS, Value.cells, Value.oneCell', Nat.reduceAdd, Nat.reduceSub, Nat.reduceMul, Nat.reduceLeDiff, Int.reduceEq, Nat.reduceEqDiff, E3Fs9]
          refine CallsH.mono (balances45 k cl aB nB cB _ day _ (rB.ext xC) lB (by omega)) ?_
          rintro v hD ⟨⟨bD, mD, cD, rfl, ID, hmD⟩, xD⟩
          rw [balsR_ok hcy hd30, Int.toNat_natCast, bals_pstX k hdc.2] at ID
          simp only [opn_of hcy hd30, decide_true, coreS, Value.cells, Value.oneCell', Nat.reduceAdd, Nat.reduceSub, Nat.reduceMul, Nat.reduceLeDiff, Int.reduceEq, Nat.reduceEqDiff, E3Fs9]
          refine CallsH.mono (longs32 b2 bD m2 c2 mD cD _ _ _ ((I6'.ext YF).ext (xC.trans xD)) ID (by omega) (by omega)) ?_
          rintro v hE ⟨rfl, rfl⟩
          simp only [decide_true, coreS, Value.cells, Value.oneCell', Nat.reduceAdd, Nat.reduceSub, Nat.reduceMul, Nat.reduceLeDiff, Int.reduceEq, Nat.reduceEqDiff, E3Fs9]
          refine CallsH.mono (works ((y6.trans YF).trans (xC.trans xD))) ?_
          rintro v hF ⟨rfl, xF⟩
          simp only [coreS, Value.cells, Value.oneCell', Nat.reduceAdd, Nat.reduceSub, Nat.reduceMul, Nat.reduceLeDiff, Int.reduceEq, Nat.reduceEqDiff, E3Fs9]
          exact xF
        · simp only [hb, decide_false, Bool.not_false, coreS, Value.cells, Value.oneCell', Nat.reduceAdd, Nat.reduceSub, Nat.reduceMul, Nat.reduceLeDiff, Int.reduceEq, Nat.reduceEqDiff, E3Fs9]
          refine CallsH.mono (works (y6.trans YF)) ?_
          rintro v hC ⟨rfl, xC⟩
          simp only [coreS, Value.cells, Value.oneCell', Nat.reduceAdd, Nat.reduceSub, Nat.reduceMul, Nat.reduceLeDiff, Int.reduceEq, Nat.reduceEqDiff, E3Fs9]
          exact xC
    · simp only [hp, hb6, he6, decide_true, decide_false, Bool.not_true, coreS, Value.cells, Value.oneCell', Nat.reduceAdd, Nat.reduceSub, Nat.reduceMul, Nat.reduceLeDiff, Int.reduceEq, Nat.reduceEqDiff, E3Fs9]
      refine ⟨fun h0 => ?_, fun h0 => ?_⟩
      · refine CallsH.mono (works y6) ?_
        rintro v h8 ⟨rfl, x8⟩
        simp only [coreS, Value.cells, Value.oneCell', Nat.reduceAdd, Nat.reduceSub, Nat.reduceMul, Nat.reduceLeDiff, Int.reduceEq, Nat.reduceEqDiff, E3Fs9]
        exact x8
      have hn0 : (n : Int) ≠ 0 := h0
      refine WP_tree (by kernel_rfl) sta_ext (.quiet 0 (.quiet 1 (.quiet 2 (.quiet 3 (.quiet 4 (.quiet 5 (.quiet 6 (.quiet 7 (.quiet 8 (.fork2 9 13 true true (.quiet 10 (.quiet 11 (.pure 12 (.keep 13 (.one 14 (.quiet 15 (.fin))))))) (.keep 9 (.quiet 10 (.quiet 11 (.pure 12 (.one 14 (.quiet 15 (.fin))))))))))))))))) (by kernel_rfl) rfl (by kernel_rfl) ?_
      simp only [hb6, coreS, Value.cells, Value.oneCell', Nat.reduceAdd, Nat.reduceSub, Nat.reduceMul, Nat.reduceLeDiff, Int.reduceEq, Nat.reduceEqDiff, drawS, treeS, E3Fs9]
      refine ⟨by rw [inK_i64]; omega, hn0, ?_⟩
      refine cQ_ext _ (fun h' x' => CallsH.mono (day43 on h' ho) fun v h'' q => ⟨q.1, by rw [q.2]; exact Ext.refl _⟩) ?_
      try simp only [coreS, Value.cells, Value.oneCell', Nat.reduceAdd, Nat.reduceSub, Nat.reduceMul, Nat.reduceLeDiff, Int.reduceEq, Nat.reduceEqDiff, drawS, treeS, E3Fs9]
      refine execT_fork2 fun h8 x8 => ⟨?_, ?_⟩
      · simp only [coreS, Value.cells, Value.oneCell', Nat.reduceAdd, Nat.reduceSub, Nat.reduceMul, Nat.reduceLeDiff, Int.reduceEq, Nat.reduceEqDiff, drawS, treeS, E3Fs9]
        refine CallsH.mono (back21 k cl a n c es (which.tmod n) (on.tmod 31) h8 (hr.ext (y6.trans x8)) hn hl) ?_
        rintro v h9 ⟨⟨aB, nB, cB, rfl, rB0, lB, zB⟩, x9⟩
        refine ⟨x9, ?_⟩
        simp only [coreS, Value.cells, Value.oneCell', Nat.reduceAdd, Nat.reduceSub, Nat.reduceMul, Nat.reduceLeDiff, Int.reduceEq, Nat.reduceEqDiff, drawS, treeS, E3Fs9]
        refine execT_keep fun h10 x10 => ?_
        simp only [coreS, Value.cells, Value.oneCell', Nat.reduceAdd, Nat.reduceSub, Nat.reduceMul, Nat.reduceLeDiff, Int.reduceEq, Nat.reduceEqDiff, drawS, treeS, E3Fs9]
        refine ⟨(Ext.refl h10).push _, ?_⟩
        refine execT_one fun h11 x11 => ?_
        have t11 := x11.get (push_new (h := h10))
        simp only [t11, coreS, Value.cells, Value.oneCell', Nat.reduceAdd, Nat.reduceSub, Nat.reduceMul, Nat.reduceLeDiff, Int.reduceEq, Nat.reduceEqDiff, drawS, treeS, E3Fs9]
        refine stK_abs t11 (by simp) fun h12 g12 u12 => ?_
        simp only [splice] at g12
        have xx12 : Ext h10 h12 := u12.ext x11.of_push (Nat.le_refl _)
        try simp only [coreS, Value.cells, Value.oneCell', Nat.reduceAdd, Nat.reduceSub, Nat.reduceMul, Nat.reduceLeDiff, Int.reduceEq, Nat.reduceEqDiff, drawS, treeS, E3Fs9]
        refine execT_fin fun h13 x13 => ?_
        have YF : Ext h7 h13 := ((x8.trans (x9.trans x10)).trans xx12).trans x13
        have kB := x13.get g12
        have rB := ((rB0.ext x10).ext xx12).ext x13
        simp only [kB, splice, coreS, Value.cells, Value.oneCell', Nat.reduceAdd, Nat.reduceSub, Nat.reduceMul, Nat.reduceLeDiff, Int.reduceEq, Nat.reduceEqDiff, E3Fs9]
        by_cases hb : bck k cl es (which.tmod n) (on.tmod 31) = 0
        · obtain ⟨_, _, _, hpp, eA, eC, eL⟩ := bck_ok hb
          rw [eL] at rB lB
          have hcy := chk_pstX (e := bkE es (which.tmod n) (on.tmod 31)) hc
          have hly := (chk_ok hcy).2.1
          simp only [hb, eA, eC, decide_true, Bool.not_true, coreS, Value.cells, Value.oneCell', Nat.reduceAdd, Nat.reduceSub, Nat.reduceMul, Nat.reduceLeDiff, Int.reduceEq, Nat.reduceEqDiff, E3Fs9]
          refine CallsH.mono (fine42 k cl aB nB cB _ _ rB lB) ?_
          rintro v hC ⟨rfl, xC⟩
          simp only [hcy, xC.get (by rw [eA, eC] at kB; exact kB), decide_true, Bool.not_true, coreS, Value.cells, Value.oneCell', Nat.reduceAdd, Nat.reduceSub, Nat.reduceMul, Nat.reduceLeDiff, Int.reduceEq, Nat.reduceEqDiff, E3Fs9]
          refine CallsH.mono (balances45 k cl aB nB cB _ day _ (rB.ext xC) lB (by omega)) ?_
          rintro v hD ⟨⟨bD, mD, cD, rfl, ID, hmD⟩, xD⟩
          rw [balsR_ok hcy hd30, Int.toNat_natCast, bals_pstX k hdc.2] at ID
          simp only [opn_of hcy hd30, decide_true, coreS, Value.cells, Value.oneCell', Nat.reduceAdd, Nat.reduceSub, Nat.reduceMul, Nat.reduceLeDiff, Int.reduceEq, Nat.reduceEqDiff, E3Fs9]
          refine CallsH.mono (longs32 b2 bD m2 c2 mD cD _ _ _ ((I6'.ext YF).ext (xC.trans xD)) ID (by omega) (by omega)) ?_
          rintro v hE ⟨rfl, rfl⟩
          simp only [decide_true, coreS, Value.cells, Value.oneCell', Nat.reduceAdd, Nat.reduceSub, Nat.reduceMul, Nat.reduceLeDiff, Int.reduceEq, Nat.reduceEqDiff, E3Fs9]
          refine CallsH.mono (works ((y6.trans YF).trans (xC.trans xD))) ?_
          rintro v hF ⟨rfl, xF⟩
          simp only [coreS, Value.cells, Value.oneCell', Nat.reduceAdd, Nat.reduceSub, Nat.reduceMul, Nat.reduceLeDiff, Int.reduceEq, Nat.reduceEqDiff, E3Fs9]
          exact xF
        · simp only [hb, decide_false, Bool.not_false, coreS, Value.cells, Value.oneCell', Nat.reduceAdd, Nat.reduceSub, Nat.reduceMul, Nat.reduceLeDiff, Int.reduceEq, Nat.reduceEqDiff, E3Fs9]
          refine CallsH.mono (works (y6.trans YF)) ?_
          rintro v hC ⟨rfl, xC⟩
          simp only [coreS, Value.cells, Value.oneCell', Nat.reduceAdd, Nat.reduceSub, Nat.reduceMul, Nat.reduceLeDiff, Int.reduceEq, Nat.reduceEqDiff, E3Fs9]
          exact xC
      · simp only [coreS, Value.cells, Value.oneCell', Nat.reduceAdd, Nat.reduceSub, Nat.reduceMul, Nat.reduceLeDiff, Int.reduceEq, Nat.reduceEqDiff, drawS, treeS, E3Fs9]
        refine ⟨(Ext.refl h8).push _, ?_⟩
        refine execT_keep fun h9 x9 => ?_
        simp only [coreS, Value.cells, Value.oneCell', Nat.reduceAdd, Nat.reduceSub, Nat.reduceMul, Nat.reduceLeDiff, Int.reduceEq, Nat.reduceEqDiff, drawS, treeS, E3Fs9]
        refine CallsH.mono (back21 k cl a n c es (which.tmod n) (on.tmod 31) h9 (hr.ext (y6.trans (x8.trans x9.of_push))) hn hl) ?_
        rintro v h10 ⟨⟨aB, nB, cB, rfl, rB0, lB, zB⟩, x10⟩
        refine ⟨x10, ?_⟩
        simp only [coreS, Value.cells, Value.oneCell', Nat.reduceAdd, Nat.reduceSub, Nat.reduceMul, Nat.reduceLeDiff, Int.reduceEq, Nat.reduceEqDiff, drawS, treeS, E3Fs9]
        refine execT_one fun h11 x11 => ?_
        have t11 := x11.get (x10.get (x9.get (push_new (h := h8))))
        simp only [t11, coreS, Value.cells, Value.oneCell', Nat.reduceAdd, Nat.reduceSub, Nat.reduceMul, Nat.reduceLeDiff, Int.reduceEq, Nat.reduceEqDiff, drawS, treeS, E3Fs9]
        refine stK_abs t11 (by simp) fun h12 g12 u12 => ?_
        simp only [splice] at g12
        have xx12 : Ext h8 h12 := u12.ext (x9.of_push.trans (x10.trans x11)) (Nat.le_refl _)
        have s8 : h8.size < h9.size := by have := x9.size; simp at this; omega
        try simp only [coreS, Value.cells, Value.oneCell', Nat.reduceAdd, Nat.reduceSub, Nat.reduceMul, Nat.reduceLeDiff, Int.reduceEq, Nat.reduceEqDiff, drawS, treeS, E3Fs9]
        refine execT_fin fun h13 x13 => ?_
        have YF : Ext h7 h13 := (x8.trans xx12).trans x13
        have kB := x13.get g12
        have rB := (row_upd (rB0.ext x11) u12 (fun p hp => by have := zB p hp; omega)).ext x13
        simp only [kB, splice, coreS, Value.cells, Value.oneCell', Nat.reduceAdd, Nat.reduceSub, Nat.reduceMul, Nat.reduceLeDiff, Int.reduceEq, Nat.reduceEqDiff, E3Fs9]
        by_cases hb : bck k cl es (which.tmod n) (on.tmod 31) = 0
        · obtain ⟨_, _, _, hpp, eA, eC, eL⟩ := bck_ok hb
          rw [eL] at rB lB
          have hcy := chk_pstX (e := bkE es (which.tmod n) (on.tmod 31)) hc
          have hly := (chk_ok hcy).2.1
          simp only [hb, eA, eC, decide_true, Bool.not_true, coreS, Value.cells, Value.oneCell', Nat.reduceAdd, Nat.reduceSub, Nat.reduceMul, Nat.reduceLeDiff, Int.reduceEq, Nat.reduceEqDiff, E3Fs9]
          refine CallsH.mono (fine42 k cl aB nB cB _ _ rB lB) ?_
          rintro v hC ⟨rfl, xC⟩
          simp only [hcy, xC.get (by rw [eA, eC] at kB; exact kB), decide_true, Bool.not_true, coreS, Value.cells, Value.oneCell', Nat.reduceAdd, Nat.reduceSub, Nat.reduceMul, Nat.reduceLeDiff, Int.reduceEq, Nat.reduceEqDiff, E3Fs9]
          refine CallsH.mono (balances45 k cl aB nB cB _ day _ (rB.ext xC) lB (by omega)) ?_
          rintro v hD ⟨⟨bD, mD, cD, rfl, ID, hmD⟩, xD⟩
          rw [balsR_ok hcy hd30, Int.toNat_natCast, bals_pstX k hdc.2] at ID
          simp only [opn_of hcy hd30, decide_true, coreS, Value.cells, Value.oneCell', Nat.reduceAdd, Nat.reduceSub, Nat.reduceMul, Nat.reduceLeDiff, Int.reduceEq, Nat.reduceEqDiff, E3Fs9]
          refine CallsH.mono (longs32 b2 bD m2 c2 mD cD _ _ _ ((I6'.ext YF).ext (xC.trans xD)) ID (by omega) (by omega)) ?_
          rintro v hE ⟨rfl, rfl⟩
          simp only [decide_true, coreS, Value.cells, Value.oneCell', Nat.reduceAdd, Nat.reduceSub, Nat.reduceMul, Nat.reduceLeDiff, Int.reduceEq, Nat.reduceEqDiff, E3Fs9]
          refine CallsH.mono (works ((y6.trans YF).trans (xC.trans xD))) ?_
          rintro v hF ⟨rfl, xF⟩
          simp only [coreS, Value.cells, Value.oneCell', Nat.reduceAdd, Nat.reduceSub, Nat.reduceMul, Nat.reduceLeDiff, Int.reduceEq, Nat.reduceEqDiff, E3Fs9]
          exact xF
        · simp only [hb, decide_false, Bool.not_false, coreS, Value.cells, Value.oneCell', Nat.reduceAdd, Nat.reduceSub, Nat.reduceMul, Nat.reduceLeDiff, Int.reduceEq, Nat.reduceEqDiff, E3Fs9]
          refine CallsH.mono (works (y6.trans YF)) ?_
          rintro v hC ⟨rfl, xC⟩
          simp only [coreS, Value.cells, Value.oneCell', Nat.reduceAdd, Nat.reduceSub, Nat.reduceMul, Nat.reduceLeDiff, Int.reduceEq, Nat.reduceEqDiff, E3Fs9]
          exact xC
  · simp only [hc, decide_false, Bool.not_false, coreS, Value.cells, Value.oneCell', Nat.reduceAdd, Nat.reduceSub, Nat.reduceMul, Nat.reduceLeDiff, Int.reduceEq, Nat.reduceEqDiff, E3Fs9]
    refine CallsH.mono (works y1) ?_
    rintro v h2 ⟨rfl, x2⟩
    simp only [coreS, Value.cells, Value.oneCell', Nat.reduceAdd, Nat.reduceSub, Nat.reduceMul, Nat.reduceLeDiff, Int.reduceEq, Nat.reduceEqDiff, E3Fs9]
    exact x2
end Go.Proofs.YtepaekbjoombpaaGreatDoor
