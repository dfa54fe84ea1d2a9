/- Walks: fine, Day, the balances as the statements take them. -/
import Derived.Test.YtepaekbjoombpaaGreatDoorB2
namespace Go.Proofs.YtepaekbjoombpaaGreatDoor
open Go Go.Proofs Go.Eng Tab
set_option maxRecDepth 100000
set_option linter.unusedSimpArgs false
set_option linter.unusedVariables false
set_option maxHeartbeats 2000000
set_option linter.defProp false
def D1Fs42 := (And.intro @agg24 (And.intro @inf24 @sz24))
def D1Fs43 := (And.intro @Tryz.underlying3 @Tryz.underlying5)
def D1Fs45 := (And.intro (And.intro (And.intro @agg2 (And.intro @agg24 @agg3)) (And.intro @by2 (And.intro @fo24_0 @inf2))) (And.intro (And.intro @inf24 (And.intro @inf3 @sz2)) (And.intro @sz24 (And.intro @sz3 @Tryz.underlying37))))
theorem fine42 (acc cl : Int) (a : Option Addr) (n c : Nat) (es : List En) (h : Eng.Heap) (hr : Row h a (ensV es)) (hn : n = es.length) :
    CallsH Tryz.prog 42 #[.agg #[.int .i64 acc, .int .i64 cl, .slice a n c]] h (fun v h' => v = .bool (decide (chk acc cl es = 0)) ∧ Ext h h') := by
  refine CallsH_of_exec Tryz.func42 rfl bod42 ?_
  simp only [Tryz.ntmps42, Tryz.results42, coreS, stK_some, splice, Value.cells, Value.oneCell', Nat.reduceAdd, Nat.reduceSub, Nat.reduceMul, Nat.reduceLeDiff, Int.reduceEq, Nat.reduceEqDiff, D1Fs42]
  refine CallsH.mono (great17 acc cl a n c _) ?_
  rintro v h1 ⟨rfl, x1⟩
  have hb1 := x1.get (push_new (h := h))
  have y1 := x1.of_push
  by_cases hg : 26 < (n : Int)
  · have hc : ¬ chk acc cl es = 0 := fun hh => by have := (chk_ok hh).2.1; omega
    simp only [hg, hc, decide_true, decide_false, Bool.not_true, coreS, Value.cells, Value.oneCell', Nat.reduceAdd, Nat.reduceSub, Nat.reduceMul, Nat.reduceLeDiff, Int.reduceEq, Nat.reduceEqDiff, D1Fs42]
    exact y1
  · have hl : n ≤ 1000000 := by omega
    simp only [hg, hb1, decide_false, Bool.not_false, coreS, Value.cells, Value.oneCell', Nat.reduceAdd, Nat.reduceSub, Nat.reduceMul, Nat.reduceLeDiff, Int.reduceEq, Nat.reduceEqDiff, D1Fs42]
    refine CallsH.mono (check26 acc cl a n c es _ (hr.ext y1) hn hl) ?_
    rintro v h2 ⟨rfl, x2⟩
    simp only [coreS, Value.cells, Value.oneCell', Nat.reduceAdd, Nat.reduceSub, Nat.reduceMul, Nat.reduceLeDiff, Int.reduceEq, Nat.reduceEqDiff, D1Fs42]
    exact y1.trans x2
theorem day43 (k : Int) (h : Eng.Heap) (hk : 0 ≤ k ∧ k ≤ 255) : CallsH Tryz.prog 43 #[.int .u8 k] h (fun v h' => v = .int .i64 (k.tmod 31) ∧ h' = h) := by
  refine CallsH_of_exec Tryz.func43 rfl bod43 ?_
  simp only [Tryz.ntmps43, Tryz.results43, coreS, stK_some, splice, Value.cells, Value.oneCell', Nat.reduceAdd, Nat.reduceSub, Nat.reduceMul, Nat.reduceLeDiff, Int.reduceEq, Nat.reduceEqDiff, D1Fs43]
  exact ⟨by rw [inK_i64]; omega, by omega⟩
theorem balances45 (acc cl : Int) (a : Option Addr) (n c : Nat) (es : List En) (day : Int) (h : Eng.Heap) (hr : Row h a (ensV es)) (hn : n = es.length) (hl : n ≤ 1000000) :
    CallsH Tryz.prog 45 #[.agg #[.int .i64 acc, .int .i64 cl, .slice a n c], .int .i64 day] h (fun v h' => (∃ b m k, v = .tuple #[.slice b m k, .bool (decide (opn acc cl es [day] = 0))] ∧ IntsV h' b m (balsR acc cl es day) ∧ m ≤ 8) ∧ Ext h h') := by
  refine CallsH_of_exec Tryz.func45 rfl bod45 ?_
  simp only [Tryz.ntmps45, Tryz.results45, coreS, stK_some, splice, Value.cells, Value.oneCell', Nat.reduceAdd, Nat.reduceSub, Nat.reduceMul, Nat.reduceLeDiff, Int.reduceEq, Nat.reduceEqDiff, D1Fs45]
  refine CallsH.mono (balances28 acc cl a n c es day _ (hr.push _) hn hl) ?_
  rintro v h1 ⟨⟨b, m, k, rfl, I, hm⟩, x1⟩
  have hb1 := x1.get (push_new (h := h))
  have y1 := x1.of_push
  have hml := I.len
  by_cases e0 : opn acc cl es [day] = 0
  · obtain ⟨hc, hd⟩ := opn_ok e0
    obtain ⟨ha, hl2, hcl, hok, hso, hft⟩ := chk_ok hc
    have hbl : balsR acc cl es day = bals acc.toNat es day := by rw [balsR, if_pos e0]
    have hma : (m : Int) = acc := by rw [hml, hbl, bals_length]; omega
    simp only [e0, hma, hb1, decide_true, decide_false, Bool.not_true, coreS, Value.cells, Value.oneCell', Nat.reduceAdd, Nat.reduceSub, Nat.reduceMul, Nat.reduceLeDiff, Int.reduceEq, Nat.reduceEqDiff, D1Fs45]
    have hbd : ∀ i < m, -20000 ≤ (balsR acc cl es day).getD i 0 ∧ (balsR acc cl es day).getD i 0 ≤ 20000 := fun i hi => by
      rw [hbl, bals_get _ _ (by omega)]
      have := balA_bound day i (es := es) hok
      omega
    refine WP_loopI [4, 5, 8, 24, 25, 26, 27, 28, 29, 30, 31, 32, 33, 34, 35, 36, 37, 38, 39, 40, 41] (fun g h' => h' = h1 ∧ ∃ i : Nat, i ≤ m ∧ g 8 = .int .i64 i) (fun g _ => match g 8 with | .int _ q => m - q.toNat | _ => 0) ⟨rfl, 0, by omega, rfl⟩ ?_
    rintro g h' ⟨rfl, i, hin, hg⟩
    by_cases hi : i < m
    · have hb := hbd i hi
      have f1 : ¬ (balsR acc cl es day).getD i 0 < -20000 := by omega
      have f2 : ¬ (20000 : Int) < (balsR acc cl es day).getD i 0 := by omega
      simp only [hg, I.cell (j := i) (by omega), f1, f2, decide_false, Int.toNat_natCast, coreS, Value.cells, Value.oneCell', Nat.reduceAdd, Nat.reduceSub, Nat.reduceMul, Nat.reduceLeDiff, Int.reduceEq, Nat.reduceEqDiff, D1Fs45]
      refine ⟨fun _ => ?_, fun hge => absurd (by omega) hge⟩
      refine ⟨by omega, I.isSome (by omega), by omega, I.isSome (by omega), by rw [inK_i64]; omega, roundK_mk (by kernel_rfl) ⟨rfl, i + 1, by omega, rfl⟩ ?_⟩
      show m - ((i : Int) + 1).toNat < m - (i : Int).toNat
      omega
    · simp only [hg, coreS, Value.cells, Value.oneCell', Nat.reduceAdd, Nat.reduceSub, Nat.reduceMul, Nat.reduceLeDiff, Int.reduceEq, Nat.reduceEqDiff, D1Fs45]
      refine ⟨fun hlt => absurd hlt (by omega), fun _ => ⟨⟨_, _, _, rfl, I, hm⟩, y1⟩⟩
  · simp only [e0, hb1, decide_false, Bool.not_false, coreS, Value.cells, Value.oneCell', Nat.reduceAdd, Nat.reduceSub, Nat.reduceMul, Nat.reduceLeDiff, Int.reduceEq, Nat.reduceEqDiff, D1Fs45]
    exact ⟨⟨_, _, _, rfl, by rw [balsR, if_neg e0]; exact IntsV.nil _, by omega⟩, y1⟩
end Go.Proofs.YtepaekbjoombpaaGreatDoor
