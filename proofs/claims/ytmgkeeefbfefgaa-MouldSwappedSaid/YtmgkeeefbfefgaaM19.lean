/- Walks: chained, Chain. -/
import Derived.Test.YtmgkeeefbfefgaaM18
namespace Go.Proofs.Ytmgkeeefbfefgaa
open Go Go.Proofs Go.Eng Go.Run Tab
set_option maxRecDepth 100000
set_option linter.unusedSimpArgs false
set_option linter.unusedVariables false
set_option linter.defProp false
set_option maxHeartbeats 1000000
set_option linter.defProp false
def M19Fs40 := (And.intro @agg24 (And.intro @inf24 @sz24))
def M19Fs80 := (And.intro (And.intro (And.intro @agg24 (And.intro @agg25 @agg3)) (And.intro @by3 (And.intro @inf24 @inf25))) (And.intro (And.intro @inf3 (And.intro @sz24 @sz25)) (And.intro @sz3 (And.intro @zero3 @Try.underlying25))))
/-- The error of Chain and of Swap. -/
noncomputable def chnE (S M : Int) (ws : List Wn) (days : List Int) (want day : Int) : Int :=
  if chkD S M ws days ≠ 0 then chkD S M ws days else if ¬ (0 ≤ want ∧ want < days.length) then 2 else if ¬ (0 ≤ day ∧ day ≤ 13) then 3 else if days.getD want.toNat 0 = day then 16 else 0
/-- The chain of a want. -/
def chnL (ws : List Wn) (days : List Int) (want day : Int) : List Nat := (List.range ws.length).filter (MB.cit (shN ws) (moN ws) (fun i => (natL days).getD i 0) ws.length want.toNat day.toNat ws.length)
theorem chnE_ok {S M : Int} {ws : List Wn} {days : List Int} {want day : Int} (h : chnE S M ws days want day = 0) : chkD S M ws days = 0 ∧ (0 ≤ want ∧ want < days.length) ∧ (0 ≤ day ∧ day ≤ 13) ∧ days.getD want.toNat 0 ≠ day := by
  unfold chnE at h
  split at h
  · rename_i h1; exact absurd h h1
  split at h
  · omega
  split at h
  · omega
  split at h
  · omega
  rename_i h1 h2 h3 h4
  exact ⟨Classical.not_not.1 h1, Classical.not_not.1 h2, Classical.not_not.1 h3, h4⟩
/-- What Chain returns. -/
structure ChainP (S M : Int) (ws : List Wn) (days : List Int) (want day : Int) (h0 : Nat) (h' : Eng.Heap) (v : Value) : Prop where
  ok : chnE S M ws days want day = 0 → ∃ a cap, v = .tuple #[.slice a (chnL ws days want day).length cap, .int .i64 0] ∧ OwnI h0 h' 3 a (chnL ws days want day).length cap (zsN (chnL ws days want day))
  no : chnE S M ws days want day ≠ 0 → v = .tuple #[.slice none 0 0, .int .i64 (chnE S M ws days want day)]
theorem chained80 (S M : Int) (a : Option Addr) (n c : Nat) (ws : List Wn) (b : Option Addr) (m k : Nat) (days : List Int) (want day : Int) (h : Eng.Heap) (hr : Row h a (wsV ws)) (hn : n = ws.length) (hl : n ≤ 1000000) (hd : IntsV h b m days) (hm : m ≤ 1000000) :
    CallsH Try.prog 80 #[.agg #[.int .i64 S, .int .i64 M, .slice a n c], .slice b m k, .int .i64 want, .int .i64 day] h (fun v h' => ChainP S M ws days want day h.size h' v ∧ Ext h h') := by
  have hml := hd.len
  (refine CallsH_of_exec Try.func80 rfl bod80 ?_; simp only [Try.ntmps80, Try.results80, coreS, stK_some, splice, Value.cells, Value.oneCell', Nat.reduceAdd, Nat.reduceSub, Nat.reduceMul, Nat.reduceLeDiff, Int.reduceEq, Nat.reduceEqDiff, M19Fs80])
  obtain ⟨h0, hh0⟩ : ∃ h0, h0 = (((h.push (.cells #[.int .i64 S, .int .i64 M, .slice a n c] 24)).push (.cells #[.slice b m k] 25)).push (.cells #[.int .i64 want] 3)).push (.cells #[.int .i64 day] 3) := ⟨_, rfl⟩
  have x0 : Ext h h0 := by rw [hh0]; exact ((((Ext.refl h).push _).push _).push _).push _
  have p0 : h0[h.size]? = some (.cells #[.int .i64 S, .int .i64 M, .slice a n c] 24) := by rw [hh0]; exact push_old (push_old (push_old push_new))
  have p1 : h0[h.size + 1]? = some (.cells #[.slice b m k] 25) := by rw [hh0]; exact push_old (push_old pn1)
  have p2 : h0[h.size + 1 + 1]? = some (.cells #[.int .i64 want] 3) := by rw [hh0, Array.getElem?_push, if_neg (by simp), Array.getElem?_push, if_pos (by simp)]
  have p3 : h0[h.size + 1 + 1 + 1]? = some (.cells #[.int .i64 day] 3) := by rw [hh0, Array.getElem?_push, if_pos (by simp)]
  simp only [show ¬ (h.size = h.size + 1 + 1 + 1) by omega, show ¬ (h.size = h.size + 1 + 1) by omega, show ¬ (h.size = h.size + 1) by omega, show ¬ (h.size + 1 = h.size + 1 + 1 + 1) by omega, show ¬ (h.size + 1 = h.size + 1 + 1) by omega, if_false, ← hh0, coreS, Value.cells, Value.oneCell', Nat.reduceAdd, Nat.reduceSub, Nat.reduceMul, Nat.reduceLeDiff, Int.reduceEq, Nat.reduceEqDiff, M19Fs80]
  simp only [p1, coreS, Value.cells, Value.oneCell', Nat.reduceAdd, Nat.reduceSub, Nat.reduceMul, Nat.reduceLeDiff, Int.reduceEq, Nat.reduceEqDiff, M19Fs80]
  have fin : ∀ {e : Int} {h' : Eng.Heap}, chnE S M ws days want day = e → e ≠ 0 → Ext h h' → ChainP S M ws days want day h.size h' (.tuple #[.slice none 0 0, .int .i64 e]) ∧ Ext h h' := fun h1 h2 x => ⟨⟨fun h3 => absurd (h1.symm.trans h3) h2, fun _ => by rw [h1]⟩, x⟩
  refine CallsH.mono (checkDays20 S M a n c ws b m k days h0 (hr.ext x0) hn hl (hd.ext x0) hm) ?_
  rintro v h1 ⟨rfl, x1⟩
  have y1 := x0.trans x1
  have b0 := x1.get p0
  have b1 := x1.get p1
  have b2 := x1.get p2
  have b3 := x1.get p3
  by_cases hD : chkD S M ws days = 0
  case neg =>
    simp only [hD, decide_false, Bool.not_false, coreS, Value.cells, Value.oneCell', Nat.reduceAdd, Nat.reduceSub, Nat.reduceMul, Nat.reduceLeDiff, Int.reduceEq, Nat.reduceEqDiff, M19Fs80]
    exact fin (by unfold chnE; rw [if_pos hD]) hD y1
  obtain ⟨c1, c2, c3, c4⟩ := chkD_ok hD
  have hall := inB_iff.1 c3
  simp only [hD, b1, b2, decide_true, Bool.not_true, splice, coreS, Value.cells, Value.oneCell', Nat.reduceAdd, Nat.reduceSub, Nat.reduceMul, Nat.reduceLeDiff, Int.reduceEq, Nat.reduceEqDiff, M19Fs80]
  refine ⟨by rw [inK_i64]; omega, ?_⟩
  refine CallsH.mono (within52 0 ((m : Int) - 1) _ 1 1 [want] _ (intsV_one push_new) (by omega)) ?_
  rintro v h2 ⟨rfl, x2⟩
  have x2 := x2.of_push
  have y2 := y1.trans x2
  have b0 := x2.get b0
  have b1 := x2.get b1
  have b2 := x2.get b2
  have b3 := x2.get b3
  by_cases hw : 0 ≤ want ∧ want ≤ (m : Int) - 1
  case neg =>
    simp only [inB_one, hw, decide_false, Bool.not_false, coreS, Value.cells, Value.oneCell', Nat.reduceAdd, Nat.reduceSub, Nat.reduceMul, Nat.reduceLeDiff, Int.reduceEq, Nat.reduceEqDiff, M19Fs80]
    exact fin (by unfold chnE; rw [if_neg (by simpa using hD), if_pos (by omega)]) (by omega) y2
  simp only [inB_one, hw, b3, and_self, decide_true, Bool.not_true, splice, coreS, Value.cells, Value.oneCell', Nat.reduceAdd, Nat.reduceSub, Nat.reduceMul, Nat.reduceLeDiff, Int.reduceEq, Nat.reduceEqDiff, M19Fs80]
  refine CallsH.mono (within52 0 13 _ 1 1 [day] _ (intsV_one push_new) (by omega)) ?_
  rintro v h3 ⟨rfl, x3⟩
  have x3 := x3.of_push
  have y3 := y2.trans x3
  have b0 := x3.get b0
  have b1 := x3.get b1
  have b2 := x3.get b2
  have b3 := x3.get b3
  by_cases hy : 0 ≤ day ∧ day ≤ 13
  case neg =>
    simp only [inB_one, hy, decide_false, Bool.not_false, coreS, Value.cells, Value.oneCell', Nat.reduceAdd, Nat.reduceSub, Nat.reduceMul, Nat.reduceLeDiff, Int.reduceEq, Nat.reduceEqDiff, M19Fs80]
    exact fin (by unfold chnE; rw [if_neg (by simpa using hD), if_neg (by omega), if_pos hy]) (by omega) y3
  obtain ⟨w, rfl⟩ : ∃ w : Nat, want = w := ⟨want.toNat, by omega⟩
  obtain ⟨d, rfl⟩ : ∃ d : Nat, day = d := ⟨day.toNat, by omega⟩
  obtain ⟨s, mm, rfl, rfl, V⟩ := chk_ok c1
  have hwl : w < days.length := by omega
  have cw := (hd.ext y3).cell hwl
  have sb := hd.isSome (by omega)
  simp only [inB_one, hy, and_self, decide_true, Bool.not_true, coreS, Value.cells, Value.oneCell', Nat.reduceAdd, Nat.reduceSub, Nat.reduceMul, Nat.reduceLeDiff, Int.reduceEq, Nat.reduceEqDiff, M19Fs80]
  refine WP_draw (by kernel_rfl) sta_eq [(0, 0), (1, 0), (2, 0), (3, 0), (4, 0), (5, 0), (6, 0)] (by kernel_rfl) rfl (by kernel_rfl) ?_
  simp only [b1, b2, b3, cw, Int.toNat_natCast, hvK_eq, coreS, Value.cells, Value.oneCell', Nat.reduceAdd, Nat.reduceSub, Nat.reduceMul, Nat.reduceLeDiff, Int.reduceEq, Nat.reduceEqDiff, drawS, M19Fs80]
  refine ⟨⟨by omega, by omega⟩, sb, ?_⟩
  by_cases heq : days.getD w 0 = (d : Nat)
  · simp only [heq, decide_true, coreS, Value.cells, Value.oneCell', Nat.reduceAdd, Nat.reduceSub, Nat.reduceMul, Nat.reduceLeDiff, Int.reduceEq, Nat.reduceEqDiff, M19Fs80]
    exact fin (by unfold chnE; rw [if_neg (by simpa using hD), if_neg (by omega), if_neg (by omega), if_pos (by rw [Int.toNat_natCast]; exact heq)]) (by omega) y3
  simp only [heq, b0, decide_false, coreS, Value.cells, Value.oneCell', Nat.reduceAdd, Nat.reduceSub, Nat.reduceMul, Nat.reduceLeDiff, Int.reduceEq, Nat.reduceEqDiff, M19Fs80]
  have hE : chnE (s : Int) (mm : Int) ws days (w : Int) (d : Int) = 0 := by
    unfold chnE
    rw [if_neg (by simpa using hD), if_neg (by omega), if_neg (by omega), if_neg (by rw [Int.toNat_natCast]; exact heq)]
  refine CallsH.mono (open49 s mm a n c ws h3 (hr.ext y3) hn hl) ?_
  rintro v h4 ⟨x4, ⟨s', m', es', em', V', g, mb, rfl, hg, hmb, hgs, hbs⟩ | ⟨hc, rfl⟩⟩
  rotate_left
  · exact absurd V.chk hc
  obtain rfl : s = s' := by omega
  obtain rfl : mm = m' := by omega
  have y4 := y3.trans x4
  have b1 := x4.get b1
  have b2 := x4.get b2
  have b3 := x4.get b3
  have hV := V.n
  obtain ⟨C, hC⟩ : ∃ C : Nat → Nat, C = fun i => (natL days).getD i 0 := ⟨_, rfl⟩
  have hCd : ∀ i, i < m → days.getD i 0 = (C i : Nat) := fun i hi => by
    have e1 : C i = (natL days).getD i 0 := by rw [hC]
    rw [e1, natL_get]
    have hm : days.getD i 0 ∈ days := by
      have : i < days.length := by omega
      simp [List.getD, List.getElem?_eq_getElem this]
    have := hall _ hm
    omega
  simp only [b2, coreS, Value.cells, Value.oneCell', Nat.reduceAdd, Nat.reduceSub, Nat.reduceMul, Nat.reduceLeDiff, Int.reduceEq, Nat.reduceEqDiff, M19Fs80]
  refine CallsH.mono (reached96 g mb s mm a n c ws w d C 95 _ h4 hg (hr.ext y4) hn V (by omega) fun i hi h' x' => ?_) ?_
  · refine CallsH.mono (of95 (h.size + 1) (h.size + 1 + 1 + 1) (h.size + 1 + 1) m b k days w d i h' (x'.get b1) (x'.get b3) (x'.get b2) (hd.ext (y4.trans x')) (by omega) (by omega)) ?_
    rintro v h5 ⟨rfl, rfl⟩
    refine ⟨?_, rfl⟩
    rw [hCd i (by omega), hCd w (by omega), Bool.or_comm]
    congr 2
    · rw [decide_eq_decide]; omega
    · rw [decide_eq_decide]; omega
  · rintro v h5 ⟨x5, a5, cap5, rfl, O5⟩
    have e5 : (List.range n).filter (MB.cit (shN ws) (moN ws) C n w d n) = chnL ws days (w : Int) (d : Int) := by
      unfold chnL
      rw [Int.toNat_natCast, Int.toNat_natCast, ← hC, hn]
    rw [e5] at O5 ⊢
    rw [zsN_length] at O5 ⊢
    simp only [coreS, Value.cells, Value.oneCell', Nat.reduceAdd, Nat.reduceSub, Nat.reduceMul, Nat.reduceLeDiff, Int.reduceEq, Nat.reduceEqDiff, M19Fs80]
    have := y4.size
    exact ⟨⟨fun _ => ⟨a5, cap5, rfl, O5.mono (by omega)⟩, fun hne => absurd hE hne⟩, y4.trans x5⟩
theorem chain40 (S M : Int) (a : Option Addr) (n c : Nat) (ws : List Wn) (b : Option Addr) (m k : Nat) (days : List Int) (want day : Int) (h : Eng.Heap) (hr : Row h a (wsV ws)) (hn : n = ws.length) (hl : n ≤ 1000000) (hd : IntsV h b m days) (hm : m ≤ 1000000) :
    CallsH Try.prog 40 #[.agg #[.int .i64 S, .int .i64 M, .slice a n c], .slice b m k, .int .i64 want, .int .i64 day] h (fun v h' => ChainP S M ws days want day h.size h' v ∧ Ext h h') := by
  (refine CallsH_of_exec Try.func40 rfl bod40 ?_; simp only [Try.ntmps40, Try.results40, coreS, stK_some, splice, Value.cells, Value.oneCell', Nat.reduceAdd, Nat.reduceSub, Nat.reduceMul, Nat.reduceLeDiff, Int.reduceEq, Nat.reduceEqDiff, M19Fs40])
  have x0 : Ext h (h.push (.cells #[.int .i64 S, .int .i64 M, .slice a n c] 24)) := (Ext.refl h).push _
  refine CallsH.mono (chained80 S M a n c ws b m k days want day _ (hr.ext x0) hn hl (hd.ext x0) hm) ?_
  rintro v h1 ⟨P, x1⟩
  have y1 := x0.trans x1
  by_cases hE : chnE S M ws days want day = 0
  · obtain ⟨a', cap, rfl, O⟩ := P.ok hE
    simp only [coreS, Value.cells, Value.oneCell', Nat.reduceAdd, Nat.reduceSub, Nat.reduceMul, Nat.reduceLeDiff, Int.reduceEq, Nat.reduceEqDiff, M19Fs40]
    exact ⟨⟨fun _ => ⟨a', cap, rfl, O.mono (by rw [push_size]; omega)⟩, fun hne => absurd hE hne⟩, y1⟩
  · have e := P.no hE
    subst e
    simp only [coreS, Value.cells, Value.oneCell', Nat.reduceAdd, Nat.reduceSub, Nat.reduceMul, Nat.reduceLeDiff, Int.reduceEq, Nat.reduceEqDiff, M19Fs40]
    exact ⟨⟨fun h0 => absurd h0 hE, fun _ => rfl⟩, y1⟩
end Go.Proofs.Ytmgkeeefbfefgaa
