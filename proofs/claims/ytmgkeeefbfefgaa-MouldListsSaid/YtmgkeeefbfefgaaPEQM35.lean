/- Walks: whether a shop wants a mould. -/
import Derived.Test.YtmgkeeefbfefgaaPE12
namespace Go.Proofs.Ytmgkeeefbfefgaa
open Go Go.Proofs Go.Eng Go.Run Tab
set_option maxRecDepth 100000
set_option linter.unusedSimpArgs false
set_option linter.unusedVariables false
set_option linter.defProp false
set_option maxHeartbeats 1000000
set_option linter.defProp false
def M35Fs92 := (And.intro (And.intro (And.intro @agg22 @fo24_2) (And.intro @fo99_0 @fps58_0)) (And.intro (And.intro @fps58_1 @inf22) (And.intro @okf58 (And.intro @sz22 @zero58))))
def M35Fs100 := (And.intro @agg58 (And.intro @inf58 @sz58))
def M35Fs113 := (And.intro (And.intro @agg58 @by58) (And.intro @inf58 (And.intro @sz58 @Try.underlying22)))
theorem eqWQ {er : Env} {h : Eng.Heap} {ty yt : TypeId} {x y : Operand} {u w : Wn} {K : Value → Eng.Heap → Prop} (hx : ev er x = .agg #[.int .i64 u.s, .int .i64 u.m]) (hy : ev er y = .agg #[.int .i64 w.s, .int .i64 w.m]) (H : K (.bool (decide (u = w))) h) : opQS Try.prog EqH (.binOp .eql 58 x y yt) ty er h K := by
  unfold opQS
  have hd : decide (u = w) = decide ([u.s, u.m] = [w.s, w.m]) := by
    obtain ⟨a, b⟩ := u; obtain ⟨c, d⟩ := w
    simp
  rw [hd] at H
  have hfl : ((Pt.pr.ty 58).getD ⟨0, 0, .any, .other, []⟩).fl = List.replicate 2 .i := by kernel_rfl
  refine ⟨.bool (decide ([u.s, u.m] = [w.s, w.m])), fun h' hr => ?_, H⟩
  refine eqAggW Pt.ok (ti := (Pt.pr.ty 58).getD ⟨0, 0, .any, .other, []⟩) (by kernel_rfl) (a := .agg ([u.s, u.m].map (T.int .i64))) (b := .agg ([w.s, w.m].map (T.int .i64))) (r := decide ([u.s, u.m] = [w.s, w.m])) ?_ ?_ ?_ (.inl rfl) hx hy ⟨by simp, rfl⟩
  · simp only [VR]; exact ⟨_, rfl, by simpa [Eng.ints] using vl_ints [u.s, u.m]⟩
  · simp only [VR]; exact ⟨_, rfl, by simpa [Eng.ints] using vl_ints [w.s, w.m]⟩
  · have := beqF_ints [u.s, u.m] [w.s, w.m] rfl
    unfold eqAgg
    rw [hfl]
    simpa [List.replicate_succ] using this
theorem index113 (a : Option Addr) (n c : Nat) (ws : List Wn) (w : Wn) (h : Eng.Heap) (hr : Row h a (wsV ws)) (hn : n = ws.length) (hl : n ≤ 1000000) :
    CallsH Try.prog 113 #[.slice a n c, .agg #[.int .i64 w.s, .int .i64 w.m]] h (fun v h' => (∃ k : Int, v = .int .i64 k ∧ (0 ≤ k ↔ w ∈ ws)) ∧ Ext h h') := by
  have x0 : Ext h (h.push (.cells #[.int .i64 w.s, .int .i64 w.m] 58)) := (Ext.refl h).push _
  have q0 := push_new (h := h) (o := .cells #[.int .i64 w.s, .int .i64 w.m] 58)
  (refine CallsH_of_exec Try.func113 rfl bod113 ?_; simp only [Try.ntmps113, Try.results113, coreS, stK_some, splice, Value.cells, Value.oneCell', Nat.reduceAdd, Nat.reduceSub, Nat.reduceMul, Nat.reduceLeDiff, Int.reduceEq, Nat.reduceEqDiff, M35Fs113])
  generalize h.push (.cells #[.int .i64 w.s, .int .i64 w.m] 58) = hh at x0 q0 ⊢
  refine WP_loopI [4, 5, 8, 9, 10, 11, 12, 13, 14, 15, 16, 17, 18] (fun g h' => h' = hh ∧ ∃ i : Nat, i ≤ n ∧ g 8 = .int .i64 i ∧ (∀ j, j < i → w ≠ wAt ws j)) (fun g _ => match g 8 with | .int _ m => n - m.toNat | _ => 0) ⟨rfl, 0, by omega, rfl, fun j hj => absurd hj (by omega)⟩ ?_
  rintro g h1 ⟨rfl, i, hi, he, hno⟩
  by_cases hin : i < n
  · have hlt : (i : Int) < (n : Int) := by omega
    have hiw : i < ws.length := by omega
    have hr1 := hr.ext x0
    have rw1 := rowW hr1 hiw
    have sm := rowW_some hr1 hiw
    simp only [he, hlt, decide_true, coreS, Value.cells, Value.oneCell', Nat.reduceAdd, Nat.reduceSub, Nat.reduceMul, Nat.reduceLeDiff, Int.reduceEq, Nat.reduceEqDiff, M35Fs113]
    refine WP_draw (by kernel_rfl) sta_eq [(0, 0), (1, 0), (2, 0), (3, 0), (4, 0), (5, 0)] (by kernel_rfl) rfl (by kernel_rfl) ?_
    simp only [he, q0, rw1, Int.toNat_natCast, coreS, Value.cells, Value.oneCell', Nat.reduceAdd, Nat.reduceSub, Nat.reduceMul, Nat.reduceLeDiff, Int.reduceEq, Nat.reduceEqDiff, drawS, M35Fs113]
    refine ⟨⟨by omega, by omega⟩, sm, ?_⟩
    refine eqWQ (u := w) (w := wAt ws i) rfl rfl ?_
    by_cases hw : w = wAt ws i
    · simp only [hw, decide_true, hvK_eq, he, coreS, Value.cells, Value.oneCell', Nat.reduceAdd, Nat.reduceSub, Nat.reduceMul, Nat.reduceLeDiff, Int.reduceEq, Nat.reduceEqDiff, drawS, M35Fs113]
      exact ⟨⟨_, rfl, ⟨fun _ => by rw [← hw]; rw [hw]; exact wAt_mem hiw, fun _ => by omega⟩⟩, x0⟩
    · simp only [hw, decide_false, hvK_eq, he, coreS, Value.cells, Value.oneCell', Nat.reduceAdd, Nat.reduceSub, Nat.reduceMul, Nat.reduceLeDiff, Int.reduceEq, Nat.reduceEqDiff, drawS, M35Fs113]
      refine ⟨by rw [inK_i64]; omega, roundK_mk (by kernel_rfl) ⟨rfl, i + 1, by omega, rfl, fun j hj => ?_⟩ ?_⟩
      · by_cases e : j = i
        · rw [e]; exact hw
        · exact hno j (by omega)
      · show n - ((i : Int) + 1).toNat < n - (i : Int).toNat
        omega
  · obtain rfl : i = n := by omega
    simp only [he, show ¬ ((i : Int) < (i : Int)) by omega, decide_false, coreS, Value.cells, Value.oneCell', Nat.reduceAdd, Nat.reduceSub, Nat.reduceMul, Nat.reduceLeDiff, Int.reduceEq, Nat.reduceEqDiff, M35Fs113]
    refine ⟨⟨_, rfl, ⟨fun h => absurd h (by omega), fun h => ?_⟩⟩, x0⟩
    obtain ⟨j, hj, e⟩ := List.getElem_of_mem h
    exact absurd (show w = wAt ws j by rw [wAt_eq hj, e]) (hno j (by omega))
theorem contains100 (a : Option Addr) (n c : Nat) (ws : List Wn) (w : Wn) (h : Eng.Heap) (hr : Row h a (wsV ws)) (hn : n = ws.length) (hl : n ≤ 1000000) :
    CallsH Try.prog 100 #[.slice a n c, .agg #[.int .i64 w.s, .int .i64 w.m]] h (fun v h' => v = .bool (decide (w ∈ ws)) ∧ Ext h h') := by
  have x0 : Ext h (h.push (.cells #[.int .i64 w.s, .int .i64 w.m] 58)) := (Ext.refl h).push _
  (refine CallsH_of_exec Try.func100 rfl bod100 ?_; simp only [Try.ntmps100, Try.results100, coreS, stK_some, splice, Value.cells, Value.oneCell', Nat.reduceAdd, Nat.reduceSub, Nat.reduceMul, Nat.reduceLeDiff, Int.reduceEq, Nat.reduceEqDiff, M35Fs100])
  refine CallsH.mono (index113 a n c ws w _ (hr.ext x0) hn hl) ?_
  rintro v h1 ⟨⟨k, rfl, hk⟩, x1⟩
  simp only [hk, coreS, Value.cells, Value.oneCell', Nat.reduceAdd, Nat.reduceSub, Nat.reduceMul, Nat.reduceLeDiff, Int.reduceEq, Nat.reduceEqDiff, M35Fs100]
  exact x0.trans x1
theorem wants92 (g b S M : Nat) (a : Option Addr) (n c : Nat) (ws : List Wn) (x y : Int) (h : Eng.Heap) (hg : DeskB h g b S M a n c) (hr : Row h a (wsV ws)) (hn : n = ws.length) (hl : n ≤ 1000000) :
    CallsH Try.prog 92 #[.pointer (some ⟨g, 0, none⟩), .int .i64 x, .int .i64 y] h (fun v h' => v = .bool (decide ((⟨x, y⟩ : Wn) ∈ ws)) ∧ Ext h h') := by
  unfold DeskB at hg
  (refine CallsH_of_exec Try.func92 rfl bod92 ?_; simp only [Try.ntmps92, Try.results92, coreS, stK_some, splice, Value.cells, Value.oneCell', Nat.reduceAdd, Nat.reduceSub, Nat.reduceMul, Nat.reduceLeDiff, Int.reduceEq, Nat.reduceEqDiff, M35Fs92])
  simp only [hg, splice, coreS, Value.cells, Value.oneCell', Nat.reduceAdd, Nat.reduceSub, Nat.reduceMul, Nat.reduceLeDiff, Int.reduceEq, Nat.reduceEqDiff, M35Fs92]
  refine CallsH.mono (contains100 a n c ws ⟨x, y⟩ h hr hn hl) ?_
  rintro v h1 ⟨rfl, x1⟩
  simp only [coreS, Value.cells, Value.oneCell', Nat.reduceAdd, Nat.reduceSub, Nat.reduceMul, Nat.reduceLeDiff, Int.reduceEq, Nat.reduceEqDiff, M35Fs92]
  exact x1
end Go.Proofs.Ytmgkeeefbfefgaa
