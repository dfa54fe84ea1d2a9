/- MouldDays returns true. -/
import Derived.Test.YtmgkeeefbfefgaaGreatPAQZ4
import Derived.Test.YtmgkeeefbfefgaaGreatPAQWork
namespace Go.Proofs.YtmgkeeefbfefgaaGreat
open Go Go.Proofs Go.Eng Go.Run Tab
set_option maxRecDepth 100000
set_option linter.unusedSimpArgs false
set_option linter.unusedVariables false
set_option linter.defProp false
set_option maxHeartbeats 4000000
set_option linter.defProp false
def Z5Fs3 := (And.intro @agg24 (And.intro @inf24 @sz24))
noncomputable def dyR (S M : Int) (ws : List Wn) : List Int := if chk S M ws = 0 then zsN (dysF ws) else []
theorem DaysP.get {S M : Int} {ws : List Wn} {h0 : Nat} {h' : Eng.Heap} {v : Value} (H : DaysP S M ws h0 h' v) : ∃ a n c, v = .tuple #[.slice a n c, .int .i64 (chk S M ws)] ∧ IntsV h' a n (dyR S M ws) ∧ n ≤ ws.length := by
  by_cases hc : chk S M ws = 0
  · obtain ⟨q, rfl, _, h1⟩ := H.ok hc
    obtain ⟨s, m, rfl, rfl, V⟩ := chk_ok hc
    obtain ⟨d1, d2, d3, d4, d5⟩ := dysF_ok V
    have := IntsV.block (xs := zsN (dysF ws)) h1
    rw [zsN_length, d2] at this
    exact ⟨_, _, _, by rw [hc], by unfold dyR; rw [if_pos hc]; exact this, Nat.le_refl _⟩
  · exact ⟨_, _, _, H.no hc, by unfold dyR; rw [if_neg hc]; exact IntsV.nil _, by omega⟩
theorem ChainP.get {S M : Int} {ws : List Wn} {days : List Int} {want day : Int} {h0 : Nat} {h' : Eng.Heap} {v : Value} (H : ChainP S M ws days want day h0 h' v) : ∃ a c, v = .tuple #[.slice a (chnR S M ws days want day).length c, .int .i64 (chnE S M ws days want day)] ∧ IntsV h' a (chnR S M ws days want day).length (zsN (chnR S M ws days want day)) := by
  unfold chnR
  by_cases hc : chnE S M ws days want day = 0
  · obtain ⟨a, c, rfl, O⟩ := H.ok hc
    rw [if_pos hc]
    exact ⟨a, c, by rw [hc], O.ints⟩
  · rw [if_neg hc]
    exact ⟨_, _, H.no hc, IntsV.nil _⟩
theorem SwapP.get {S M : Int} {ws : List Wn} {days : List Int} {want day : Int} {h0 : Nat} {h' : Eng.Heap} {v : Value} (H : SwapP S M ws days want day h0 h' v) : ∃ a c, v = .tuple #[.slice a (swR S M ws days want day).length c, .int .i64 (chnE S M ws days want day)] ∧ IntsV h' a (swR S M ws days want day).length (zsN (swR S M ws days want day)) := by
  unfold swR
  by_cases hc : chnE S M ws days want day = 0
  · obtain ⟨a, c, rfl, O⟩ := H.ok hc
    rw [if_pos hc, swL_length]
    exact ⟨a, c, by rw [hc], O.ints⟩
  · rw [if_neg hc]
    exact ⟨_, _, H.no hc, IntsV.nil _⟩
theorem chnR_le {S M : Int} {ws : List Wn} {days : List Int} {want day : Int} : (chnR S M ws days want day).length ≤ ws.length := by
  unfold chnR
  split
  · unfold chnL
    have := List.length_filter_le (MB.cit (shN ws) (moN ws) (fun i => (natL days).getD i 0) ws.length want.toNat day.toNat ws.length) (List.range ws.length)
    rw [List.length_range] at this
    exact this
  · simp
theorem swR_le {S M : Int} {ws : List Wn} {days : List Int} {want day : Int} : (swR S M ws days want day).length ≤ ws.length := by
  unfold swR
  split
  · rw [swL_length]; exact Nat.le_refl _
  · simp
theorem days3 (S M : Int) (a : Option Addr) (n c : Nat) (ws : List Wn) (b : Option Addr) (m k : Nat) (days : List Int) (want day : Int) (h : Eng.Heap) (hr : Row h a (wsV ws)) (hn : n = ws.length) (hd : IntsV h b m days) (hmk : m ≤ k) :
    CallsH Tryz.prog 3 #[.agg #[.int .i64 S, .int .i64 M, .slice a n c], .slice b m k, .int .i64 want, .int .i64 day] h (fun v h' => v = .bool true ∧ Ext h h') := by
  (refine CallsH_of_exec Tryz.func3 rfl bod3 ?_; simp only [Tryz.ntmps3, Tryz.results3, coreS, stK_some, splice, Value.cells, Value.oneCell', Nat.reduceAdd, Nat.reduceSub, Nat.reduceMul, Nat.reduceLeDiff, Int.reduceEq, Nat.reduceEqDiff, Z5Fs3])
  have x0 : Ext h (h.push (.cells #[.int .i64 S, .int .i64 M, .slice a n c] 24)) := (Ext.refl h).push _
  have hb0 := push_new (h := h) (o := .cells #[.int .i64 S, .int .i64 M, .slice a n c] 24)
  generalize h.push (.cells #[.int .i64 S, .int .i64 M, .slice a n c] 24) = hh at x0 hb0 ⊢
  refine CallsH.mono (great15 S M a n c hh) ?_
  rintro v h1 ⟨rfl, x1⟩
  have out : ∀ h1, Ext h h1 → CallsH Tryz.prog 6 #[] h1 (fun v h' => v = .bool true ∧ Ext h h') := fun h1 x => CallsH.mono (works6 h1) fun v h' q => ⟨q.1, x.trans q.2⟩
  have y1 := x0.trans x1
  by_cases hg : 20 < (n : Int)
  · simp only [hg, decide_true, gd_noneZ, coreS, Value.cells, Value.oneCell', Nat.reduceAdd, Nat.reduceSub, Nat.reduceMul, Nat.reduceLeDiff, Int.reduceEq, Nat.reduceEqDiff, Z5Fs3]
    refine CallsH.mono (out _ y1) ?_
    rintro v h2 ⟨rfl, x2⟩
    simp only [coreS, Value.cells, Value.oneCell', Nat.reduceAdd, Nat.reduceSub, Nat.reduceMul, Nat.reduceLeDiff, Int.reduceEq, Nat.reduceEqDiff, Z5Fs3]
    exact x2
  simp only [hg, decide_false, coreS, Value.cells, Value.oneCell', Nat.reduceAdd, Nat.reduceSub, Nat.reduceMul, Nat.reduceLeDiff, Int.reduceEq, Nat.reduceEqDiff, Z5Fs3]
  refine CallsH.mono (long16 b m k h1) ?_
  rintro v h2 ⟨rfl, rfl⟩
  by_cases hl : 24 < (m : Int)
  · simp only [hl, decide_true, gd_noneZ, coreS, Value.cells, Value.oneCell', Nat.reduceAdd, Nat.reduceSub, Nat.reduceMul, Nat.reduceLeDiff, Int.reduceEq, Nat.reduceEqDiff, Z5Fs3]
    refine CallsH.mono (out _ y1) ?_
    rintro v h2 ⟨rfl, x2⟩
    simp only [coreS, Value.cells, Value.oneCell', Nat.reduceAdd, Nat.reduceSub, Nat.reduceMul, Nat.reduceLeDiff, Int.reduceEq, Nat.reduceEqDiff, Z5Fs3]
    exact x2
  have hb1 := x1.get hb0
  have cl := chnR_le (S := S) (M := M) (ws := ws) (days := days) (want := want) (day := day)
  have sl := swR_le (S := S) (M := M) (ws := ws) (days := days) (want := want) (day := day)
  simp only [hl, hb1, decide_false, coreS, Value.cells, Value.oneCell', Nat.reduceAdd, Nat.reduceSub, Nat.reduceMul, Nat.reduceLeDiff, Int.reduceEq, Nat.reduceEqDiff, Z5Fs3]
  refine CallsH.mono (fewest47 S M a n c ws h2 (hr.ext y1) hn (by omega)) ?_
  rintro v h3 ⟨rfl, x3⟩
  have hb3 := x3.get hb1
  have y3 := y1.trans x3
  simp only [hb3, coreS, Value.cells, Value.oneCell', Nat.reduceAdd, Nat.reduceSub, Nat.reduceMul, Nat.reduceLeDiff, Int.reduceEq, Nat.reduceEqDiff, Z5Fs3]
  refine CallsH.mono (fewest8 S M a n c ws h3 (hr.ext y3) hn (by omega)) ?_
  rintro v h4 ⟨rfl, x4⟩
  have hb4 := x4.get hb3
  have y4 := y3.trans x4
  simp only [hb4, coreS, Value.cells, Value.oneCell', Nat.reduceAdd, Nat.reduceSub, Nat.reduceMul, Nat.reduceLeDiff, Int.reduceEq, Nat.reduceEqDiff, Z5Fs3]
  refine CallsH.mono (days48 S M a n c ws h4 (hr.ext y4) hn (by omega)) ?_
  rintro v h5 ⟨P5, x5⟩
  obtain ⟨a5, n5, c5, rfl, I5, l5⟩ := P5.get
  have hb5 := x5.get hb4
  have y5 := y4.trans x5
  simp only [hb5, coreS, Value.cells, Value.oneCell', Nat.reduceAdd, Nat.reduceSub, Nat.reduceMul, Nat.reduceLeDiff, Int.reduceEq, Nat.reduceEqDiff, Z5Fs3]
  refine CallsH.mono (days10 S M a n c ws h5 (hr.ext y5) hn (by omega)) ?_
  rintro v h6 ⟨⟨a6, n6, c6, rfl, I6, l6⟩, x6⟩
  have hb6 := x6.get hb5
  have y6 := y5.trans x6
  simp only [hb6, coreS, Value.cells, Value.oneCell', Nat.reduceAdd, Nat.reduceSub, Nat.reduceMul, Nat.reduceLeDiff, Int.reduceEq, Nat.reduceEqDiff, Z5Fs3]
  refine CallsH.mono (chain40 S M a n c ws b m k days want day h6 (hr.ext y6) hn (by omega) (hd.ext y6) (by omega)) ?_
  rintro v h7 ⟨P7, x7⟩
  obtain ⟨a7, c7, rfl, I7⟩ := P7.get
  have hb7 := x7.get hb6
  have y7 := y6.trans x7
  simp only [hb7, coreS, Value.cells, Value.oneCell', Nat.reduceAdd, Nat.reduceSub, Nat.reduceMul, Nat.reduceLeDiff, Int.reduceEq, Nat.reduceEqDiff, Z5Fs3]
  refine CallsH.mono (chain12 S M a n c ws b m k days want day h7 (hr.ext y7) hn (by omega) (hd.ext y7) (by omega) hmk) ?_
  rintro v h8 ⟨⟨a8, c8, rfl, I8⟩, x8⟩
  have hb8 := x8.get hb7
  have y8 := y7.trans x8
  simp only [hb8, coreS, Value.cells, Value.oneCell', Nat.reduceAdd, Nat.reduceSub, Nat.reduceMul, Nat.reduceLeDiff, Int.reduceEq, Nat.reduceEqDiff, Z5Fs3]
  refine CallsH.mono (swap39 S M a n c ws b m k days want day h8 (hr.ext y8) hn (by omega) (hd.ext y8) (by omega)) ?_
  rintro v h9 ⟨P9, x9⟩
  obtain ⟨a9, c9, rfl, I9⟩ := P9.get
  have hb9 := x9.get hb8
  have y9 := y8.trans x9
  simp only [hb9, coreS, Value.cells, Value.oneCell', Nat.reduceAdd, Nat.reduceSub, Nat.reduceMul, Nat.reduceLeDiff, Int.reduceEq, Nat.reduceEqDiff, Z5Fs3]
  refine CallsH.mono (swap14 S M a n c ws b m k days want day h9 (hr.ext y9) hn (by omega) (hd.ext y9) (by omega) hmk) ?_
  rintro v hA ⟨⟨aA, cA, rfl, IA⟩, xA⟩
  have yA := y9.trans xA
  have x9A := x9.trans xA
  have x8A := x8.trans x9A
  have x7A := x7.trans x8A
  have x6A := x6.trans x7A
  simp only [decide_true, coreS, Value.cells, Value.oneCell', Nat.reduceAdd, Nat.reduceSub, Nat.reduceMul, Nat.reduceLeDiff, Int.reduceEq, Nat.reduceEqDiff, Z5Fs3]
  refine CallsH.mono (ints24 a5 a6 n5 c5 n6 c6 _ _ hA (I5.ext x6A) (I6.ext x7A) (by omega)) ?_
  rintro v hB ⟨rfl, rfl⟩
  rw [show decide (dyR S M ws = if chk S M ws = 0 then zsN (dysF ws) else []) = true from decide_eq_true rfl]
  simp only [decide_true, coreS, Value.cells, Value.oneCell', Nat.reduceAdd, Nat.reduceSub, Nat.reduceMul, Nat.reduceLeDiff, Int.reduceEq, Nat.reduceEqDiff, Z5Fs3]
  refine CallsH.mono (ints24 a7 a8 _ c7 _ c8 _ _ hB (I7.ext x8A) (I8.ext x9A) (by omega)) ?_
  rintro v hB ⟨rfl, rfl⟩
  simp only [decide_true, coreS, Value.cells, Value.oneCell', Nat.reduceAdd, Nat.reduceSub, Nat.reduceMul, Nat.reduceLeDiff, Int.reduceEq, Nat.reduceEqDiff, Z5Fs3]
  refine CallsH.mono (ints24 a9 aA _ c9 _ cA _ _ hB (I9.ext xA) IA (by omega)) ?_
  rintro v hB ⟨rfl, rfl⟩
  simp only [decide_true, coreS, Value.cells, Value.oneCell', Nat.reduceAdd, Nat.reduceSub, Nat.reduceMul, Nat.reduceLeDiff, Int.reduceEq, Nat.reduceEqDiff, Z5Fs3]
  refine CallsH.mono (out _ yA) ?_
  rintro v hC ⟨rfl, xC⟩
  simp only [coreS, Value.cells, Value.oneCell', Nat.reduceAdd, Nat.reduceSub, Nat.reduceMul, Nat.reduceLeDiff, Int.reduceEq, Nat.reduceEqDiff, Z5Fs3]
  exact xC
end Go.Proofs.YtmgkeeefbfefgaaGreat
