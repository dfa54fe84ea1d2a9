/- Texts joined by pack.py: lemmas for YtmgkeeefbfefgaaGreatDays. No condition. -/
import Derived.Test.YtmgkeeefbfefgaaGreatPA11
import Derived.ProofKit
import Derived.OpenShut
import Derived.Below
import Derived.WideKeyArgs
import Derived.ChangeSlices
set_option linter.unusedSimpArgs false
set_option linter.unusedVariables false
set_option linter.defProp false
section
namespace Go.Proofs.YtmgkeeefbfefgaaGreat
open Go Go.Proofs Go.Eng Go.Run Tab
set_option maxRecDepth 100000
set_option linter.unusedSimpArgs false
set_option linter.unusedVariables false
set_option linter.defProp false
set_option maxHeartbeats 1000000
set_option linter.defProp false
def M19Fs11 := (And.intro @agg24 (And.intro @inf24 @sz24))
def M19Fs34 := (And.intro (And.intro (And.intro @agg24 (And.intro @agg25 @agg3)) (And.intro @by3 (And.intro @inf24 @inf25))) (And.intro (And.intro @inf3 (And.intro @sz24 @sz25)) (And.intro @sz3 (And.intro @zero3 @Tryz.underlying25))))
noncomputable def chnE (S M : Int) (ws : List Wn) (days : List Int) (want day : Int) : Int :=
  if chkD S M ws days ≠ 0 then chkD S M ws days else if ¬ (0 ≤ want ∧ want < days.length) then 2 else if ¬ (0 ≤ day ∧ day ≤ 13) then 3 else if days.getD want.toNat 0 = day then 16 else 0
def chnL (ws : List Wn) (days : List Int) (want day : Int) : List Nat := (List.range ws.length).filter (MB.cit (shN ws) (moN ws) (fun i => (natL days).getD i 0) ws.length want.toNat day.toNat ws.length)
theorem chnE_ok {S M : Int} {ws : List Wn} {days : List Int} {want day : Int} (h : chnE S M ws days want day = 0) : chkD S M ws days = 0 ∧ (0 ≤ want ∧ want < days.length) ∧ (0 ≤ day ∧ day ≤ 13) ∧ days.getD want.toNat 0 ≠ day := by
  unfold chnE at h
  split at h
  · rename_i h1; exact absurd h h1
  split at h
  · omega
  split at h
  · omega
  split at h
  · omega
  rename_i h1 h2 h3 h4
  exact ⟨Classical.not_not.1 h1, Classical.not_not.1 h2, Classical.not_not.1 h3, h4⟩
structure ChainP (S M : Int) (ws : List Wn) (days : List Int) (want day : Int) (h0 : Nat) (h' : Eng.Heap) (v : Value) : Prop where
  ok : chnE S M ws days want day = 0 → ∃ a cap, v = .tuple #[.slice a (chnL ws days want day).length cap, .int .i64 0] ∧ OwnI h0 h' 3 a (chnL ws days want day).length cap (zsN (chnL ws days want day))
  no : chnE S M ws days want day ≠ 0 → v = .tuple #[.slice none 0 0, .int .i64 (chnE S M ws days want day)]
theorem chained80 (S M : Int) (a : Option Addr) (n c : Nat) (ws : List Wn) (b : Option Addr) (m k : Nat) (days : List Int) (want day : Int) (h : Eng.Heap) (hr : Row h a (wsV ws)) (hn : n = ws.length) (hl : n ≤ 1000000) (hd : IntsV h b m days) (hm : m ≤ 1000000) :
    CallsH Tryz.prog 34 #[.agg #[.int .i64 S, .int .i64 M, .slice a n c], .slice b m k, .int .i64 want, .int .i64 day] h (fun v h' => ChainP S M ws days want day h.size h' v ∧ Ext h h') := by
  have hml := hd.len
  (refine CallsH_of_exec Tryz.func34 rfl bod34 ?_; simp only [Tryz.ntmps34, Tryz.results34, coreS, stK_some, splice, Value.cells, Value.oneCell', Nat.reduceAdd, Nat.reduceSub, Nat.reduceMul, Nat.reduceLeDiff, Int.reduceEq, Nat.reduceEqDiff, M19Fs34])
  obtain ⟨h0, hh0⟩ : ∃ h0, h0 = (((h.push (.cells #[.int .i64 S, .int .i64 M, .slice a n c] 24)).push (.cells #[.slice b m k] 25)).push (.cells #[.int .i64 want] 3)).push (.cells #[.int .i64 day] 3) := ⟨_, rfl⟩
  have x0 : Ext h h0 := by rw [hh0]; exact ((((Ext.refl h).push _).push _).push _).push _
  have p0 : h0[h.size]? = some (.cells #[.int .i64 S, .int .i64 M, .slice a n c] 24) := by rw [hh0]; exact push_old (push_old (push_old push_new))
  have p1 : h0[h.size + 1]? = some (.cells #[.slice b m k] 25) := by rw [hh0]; exact push_old (push_old pn1)
  have p2 : h0[h.size + 1 + 1]? = some (.cells #[.int .i64 want] 3) := by rw [hh0, Array.getElem?_push, if_neg (by simp), Array.getElem?_push, if_pos (by simp)]
  have p3 : h0[h.size + 1 + 1 + 1]? = some (.cells #[.int .i64 day] 3) := by rw [hh0, Array.getElem?_push, if_pos (by simp)]
  simp only [show ¬ (h.size = h.size + 1 + 1 + 1) by omega, show ¬ (h.size = h.size + 1 + 1) by omega, show ¬ (h.size = h.size + 1) by omega, show ¬ (h.size + 1 = h.size + 1 + 1 + 1) by omega, show ¬ (h.size + 1 = h.size + 1 + 1) by omega, if_false, ← hh0, coreS, Value.cells, Value.oneCell', Nat.reduceAdd, Nat.reduceSub, Nat.reduceMul, Nat.reduceLeDiff, Int.reduceEq, Nat.reduceEqDiff, M19Fs34]
  simp only [p1, coreS, Value.cells, Value.oneCell', Nat.reduceAdd, Nat.reduceSub, Nat.reduceMul, Nat.reduceLeDiff, Int.reduceEq, Nat.reduceEqDiff, M19Fs34]
  have fin : ∀ {e : Int} {h' : Eng.Heap}, chnE S M ws days want day = e → e ≠ 0 → Ext h h' → ChainP S M ws days want day h.size h' (.tuple #[.slice none 0 0, .int .i64 e]) ∧ Ext h h' := fun h1 h2 x => ⟨⟨fun h3 => absurd (h1.symm.trans h3) h2, fun _ => by rw [h1]⟩, x⟩
  refine CallsH.mono (checkDays20 S M a n c ws b m k days h0 (hr.ext x0) hn hl (hd.ext x0) hm) ?_
  rintro v h1 ⟨rfl, x1⟩
  have y1 := x0.trans x1
  have b0 := x1.get p0
  have b1 := x1.get p1
  have b2 := x1.get p2
  have b3 := x1.get p3
  by_cases hD : chkD S M ws days = 0
  case neg =>
    simp only [hD, decide_false, Bool.not_false, coreS, Value.cells, Value.oneCell', Nat.reduceAdd, Nat.reduceSub, Nat.reduceMul, Nat.reduceLeDiff, Int.reduceEq, Nat.reduceEqDiff, M19Fs34]
    exact fin (by unfold chnE; rw [if_pos hD]) hD y1
  obtain ⟨c1, c2, c3, c4⟩ := chkD_ok hD
  have hall := inB_iff.1 c3
  simp only [hD, b1, b2, decide_true, Bool.not_true, splice, coreS, Value.cells, Value.oneCell', Nat.reduceAdd, Nat.reduceSub, Nat.reduceMul, Nat.reduceLeDiff, Int.reduceEq, Nat.reduceEqDiff, M19Fs34]
  refine ⟨by rw [inK_i64]; omega, ?_⟩
  refine CallsH.mono (within52 0 ((m : Int) - 1) _ 1 1 [want] _ (intsV_one push_new) (by omega)) ?_
  rintro v h2 ⟨rfl, x2⟩
  have x2 := x2.of_push
  have y2 := y1.trans x2
  have b0 := x2.get b0
  have b1 := x2.get b1
  have b2 := x2.get b2
  have b3 := x2.get b3
  by_cases hw : 0 ≤ want ∧ want ≤ (m : Int) - 1
  case neg =>
    simp only [inB_one, hw, decide_false, Bool.not_false, coreS, Value.cells, Value.oneCell', Nat.reduceAdd, Nat.reduceSub, Nat.reduceMul, Nat.reduceLeDiff, Int.reduceEq, Nat.reduceEqDiff, M19Fs34]
    exact fin (by unfold chnE; rw [if_neg (by simpa using hD), if_pos (by omega)]) (by omega) y2
  simp only [inB_one, hw, b3, and_self, decide_true, Bool.not_true, splice, coreS, Value.cells, Value.oneCell', Nat.reduceAdd, Nat.reduceSub, Nat.reduceMul, Nat.reduceLeDiff, Int.reduceEq, Nat.reduceEqDiff, M19Fs34]
  refine CallsH.mono (within52 0 13 _ 1 1 [day] _ (intsV_one push_new) (by omega)) ?_
  rintro v h3 ⟨rfl, x3⟩
  have x3 := x3.of_push
  have y3 := y2.trans x3
  have b0 := x3.get b0
  have b1 := x3.get b1
  have b2 := x3.get b2
  have b3 := x3.get b3
  by_cases hy : 0 ≤ day ∧ day ≤ 13
  case neg =>
    simp only [inB_one, hy, decide_false, Bool.not_false, coreS, Value.cells, Value.oneCell', Nat.reduceAdd, Nat.reduceSub, Nat.reduceMul, Nat.reduceLeDiff, Int.reduceEq, Nat.reduceEqDiff, M19Fs34]
    exact fin (by unfold chnE; rw [if_neg (by simpa using hD), if_neg (by omega), if_pos hy]) (by omega) y3
  obtain ⟨w, rfl⟩ : ∃ w : Nat, want = w := ⟨want.toNat, by omega⟩
  obtain ⟨d, rfl⟩ : ∃ d : Nat, day = d := ⟨day.toNat, by omega⟩
  obtain ⟨s, mm, rfl, rfl, V⟩ := chk_ok c1
  have hwl : w < days.length := by omega
  have cw := (hd.ext y3).cell hwl
  have sb := hd.isSome (by omega)
  simp only [inB_one, hy, and_self, decide_true, Bool.not_true, coreS, Value.cells, Value.oneCell', Nat.reduceAdd, Nat.reduceSub, Nat.reduceMul, Nat.reduceLeDiff, Int.reduceEq, Nat.reduceEqDiff, M19Fs34]
  refine WP_draw (by kernel_rfl) sta_eq [(0, 0), (1, 0), (2, 0), (3, 0), (4, 0), (5, 0), (6, 0)] (by kernel_rfl) rfl (by kernel_rfl) ?_
  simp only [b1, b2, b3, cw, Int.toNat_natCast, hvK_eq, coreS, Value.cells, Value.oneCell', Nat.reduceAdd, Nat.reduceSub, Nat.reduceMul, Nat.reduceLeDiff, Int.reduceEq, Nat.reduceEqDiff, drawS, M19Fs34]
  refine ⟨⟨by omega, by omega⟩, sb, ?_⟩
  by_cases heq : days.getD w 0 = (d : Nat)
  · simp only [heq, decide_true, coreS, Value.cells, Value.oneCell', Nat.reduceAdd, Nat.reduceSub, Nat.reduceMul, Nat.reduceLeDiff, Int.reduceEq, Nat.reduceEqDiff, M19Fs34]
    exact fin (by unfold chnE; rw [if_neg (by simpa using hD), if_neg (by omega), if_neg (by omega), if_pos (by rw [Int.toNat_natCast]; exact heq)]) (by omega) y3
  simp only [heq, b0, decide_false, coreS, Value.cells, Value.oneCell', Nat.reduceAdd, Nat.reduceSub, Nat.reduceMul, Nat.reduceLeDiff, Int.reduceEq, Nat.reduceEqDiff, M19Fs34]
  have hE : chnE (s : Int) (mm : Int) ws days (w : Int) (d : Int) = 0 := by
    unfold chnE
    rw [if_neg (by simpa using hD), if_neg (by omega), if_neg (by omega), if_neg (by rw [Int.toNat_natCast]; exact heq)]
  refine CallsH.mono (open49 s mm a n c ws h3 (hr.ext y3) hn hl) ?_
  rintro v h4 ⟨x4, ⟨s', m', es', em', V', g, mb, rfl, hg, hmb, hgs, hbs⟩ | ⟨hc, rfl⟩⟩
  rotate_left
  · exact absurd V.chk hc
  obtain rfl : s = s' := by omega
  obtain rfl : mm = m' := by omega
  have y4 := y3.trans x4
  have b1 := x4.get b1
  have b2 := x4.get b2
  have b3 := x4.get b3
  have hV := V.n
  obtain ⟨C, hC⟩ : ∃ C : Nat → Nat, C = fun i => (natL days).getD i 0 := ⟨_, rfl⟩
  have hCd : ∀ i, i < m → days.getD i 0 = (C i : Nat) := fun i hi => by
    have e1 : C i = (natL days).getD i 0 := by rw [hC]
    rw [e1, natL_get]
    have hm : days.getD i 0 ∈ days := by
      have : i < days.length := by omega
      simp [List.getD, List.getElem?_eq_getElem this]
    have := hall _ hm
    omega
  simp only [b2, coreS, Value.cells, Value.oneCell', Nat.reduceAdd, Nat.reduceSub, Nat.reduceMul, Nat.reduceLeDiff, Int.reduceEq, Nat.reduceEqDiff, M19Fs34]
  refine CallsH.mono (reached96 g mb s mm a n c ws w d C 66 _ h4 hg (hr.ext y4) hn V (by omega) fun i hi h' x' => ?_) ?_
  · refine CallsH.mono (of95 (h.size + 1) (h.size + 1 + 1 + 1) (h.size + 1 + 1) m b k days w d i h' (x'.get b1) (x'.get b3) (x'.get b2) (hd.ext (y4.trans x')) (by omega) (by omega)) ?_
    rintro v h5 ⟨rfl, rfl⟩
    refine ⟨?_, rfl⟩
    rw [hCd i (by omega), hCd w (by omega), Bool.or_comm]
    congr 2
    · rw [decide_eq_decide]; omega
    · rw [decide_eq_decide]; omega
  · rintro v h5 ⟨x5, a5, cap5, rfl, O5⟩
    have e5 : (List.range n).filter (MB.cit (shN ws) (moN ws) C n w d n) = chnL ws days (w : Int) (d : Int) := by
      unfold chnL
      rw [Int.toNat_natCast, Int.toNat_natCast, ← hC, hn]
    rw [e5] at O5 ⊢
    rw [zsN_length] at O5 ⊢
    simp only [coreS, Value.cells, Value.oneCell', Nat.reduceAdd, Nat.reduceSub, Nat.reduceMul, Nat.reduceLeDiff, Int.reduceEq, Nat.reduceEqDiff, M19Fs34]
    have := y4.size
    exact ⟨⟨fun _ => ⟨a5, cap5, rfl, O5.mono (by omega)⟩, fun hne => absurd hE hne⟩, y4.trans x5⟩
theorem chain40 (S M : Int) (a : Option Addr) (n c : Nat) (ws : List Wn) (b : Option Addr) (m k : Nat) (days : List Int) (want day : Int) (h : Eng.Heap) (hr : Row h a (wsV ws)) (hn : n = ws.length) (hl : n ≤ 1000000) (hd : IntsV h b m days) (hm : m ≤ 1000000) :
    CallsH Tryz.prog 11 #[.agg #[.int .i64 S, .int .i64 M, .slice a n c], .slice b m k, .int .i64 want, .int .i64 day] h (fun v h' => ChainP S M ws days want day h.size h' v ∧ Ext h h') := by
  (refine CallsH_of_exec Tryz.func11 rfl bod11 ?_; simp only [Tryz.ntmps11, Tryz.results11, coreS, stK_some, splice, Value.cells, Value.oneCell', Nat.reduceAdd, Nat.reduceSub, Nat.reduceMul, Nat.reduceLeDiff, Int.reduceEq, Nat.reduceEqDiff, M19Fs11])
  have x0 : Ext h (h.push (.cells #[.int .i64 S, .int .i64 M, .slice a n c] 24)) := (Ext.refl h).push _
  refine CallsH.mono (chained80 S M a n c ws b m k days want day _ (hr.ext x0) hn hl (hd.ext x0) hm) ?_
  rintro v h1 ⟨P, x1⟩
  have y1 := x0.trans x1
  by_cases hE : chnE S M ws days want day = 0
  · obtain ⟨a', cap, rfl, O⟩ := P.ok hE
    simp only [coreS, Value.cells, Value.oneCell', Nat.reduceAdd, Nat.reduceSub, Nat.reduceMul, Nat.reduceLeDiff, Int.reduceEq, Nat.reduceEqDiff, M19Fs11]
    exact ⟨⟨fun _ => ⟨a', cap, rfl, O.mono (by rw [push_size]; omega)⟩, fun hne => absurd hE hne⟩, y1⟩
  · have e := P.no hE
    subst e
    simp only [coreS, Value.cells, Value.oneCell', Nat.reduceAdd, Nat.reduceSub, Nat.reduceMul, Nat.reduceLeDiff, Int.reduceEq, Nat.reduceEqDiff, M19Fs11]
    exact ⟨⟨fun h0 => absurd h0 hE, fun _ => rfl⟩, y1⟩
end Go.Proofs.YtmgkeeefbfefgaaGreat
end
section
namespace Go.Proofs.YtmgkeeefbfefgaaGreat
open Go Go.Proofs Go.Eng Go.Run Tab
set_option maxRecDepth 100000
set_option linter.unusedSimpArgs false
set_option linter.unusedVariables false
set_option linter.defProp false
set_option maxHeartbeats 1000000
set_option linter.defProp false
def M20Fs13 := (And.intro (And.intro (And.intro @agg24 @agg3) (And.intro @by3 @inf24)) (And.intro (And.intro @inf3 @sz24) (And.intro @sz3 @Tryz.underlying25)))
def M20Fs37 := (And.intro (And.intro @by3 @inf3) (And.intro @sz3 (And.intro @zero3 @Tryz.underlying25)))
theorem sliceNil {P : Program} {e : Eng.Env} {h : Eng.Heap} {ty u yt el : TypeId} (hu : P.underlying u = some (.slice el)) {x y : Operand} {a : Option Addr} {n c : Nat} (hx : ev e x = .slice a n c) (hy : ev e y = .slice none 0 0) {K : Value → Eng.Heap → Prop} (H : K (.bool a.isNone) h) : opSem P (.binOp .eql u x y yt) ty e h K :=
  opSem_pure rfl _ H fun w _ => by simp [execOp, hx, hy, eqGuard, Go.binOp, eq_slice hu]
theorem binW_slice {op : BinOp} {a b : Option Addr} {n c n2 c2 : Nat} {h : Eng.Heap} {K : Value → Eng.Heap → Prop} {F : Prop} : binW op (.slice a n c) (.slice b n2 c2) h K F = F := by unfold binW; rfl
theorem clone63 (a : Option Addr) (n c : Nat) (xs : List Int) (h : Eng.Heap) (hd : IntsV h a n xs) (hl : n ≤ 900) :
    CallsH Tryz.prog 37 #[.slice a n c] h (fun v h' => (∃ a' c', v = .slice a' n c' ∧ OwnI h.size h' 3 a' n c' xs) ∧ Ext h h') := by
  have hn := hd.len
  (refine CallsH_of_exec Tryz.func37 rfl bod37 ?_; simp only [Tryz.ntmps37, Tryz.results37, coreS, stK_some, splice, Value.cells, Value.oneCell', Nat.reduceAdd, Nat.reduceSub, Nat.reduceMul, Nat.reduceLeDiff, Int.reduceEq, Nat.reduceEqDiff, M20Fs37])
  rw [binW_slice]
  refine sliceNil Tryz.underlying25 rfl rfl ?_
  cases a with
  | none =>
    have he : xs = [] := by
      by_cases h0 : 0 < xs.length
      · have := hd.isSome h0; cases this
      · exact List.length_eq_zero_iff.1 (by omega)
    subst he
    subst hn
    simp only [Option.isNone, coreS, Value.cells, Value.oneCell', Nat.reduceAdd, Nat.reduceSub, Nat.reduceMul, Nat.reduceLeDiff, Int.reduceEq, Nat.reduceEqDiff, M20Fs37]
    exact ⟨⟨none, 0, rfl, OwnI.nil _ _ _⟩, Ext.refl _⟩
  | some a =>
    simp only [Option.isNone, coreS, Value.cells, Value.oneCell', Nat.reduceAdd, Nat.reduceSub, Nat.reduceMul, Nat.reduceLeDiff, Int.reduceEq, Nat.reduceEqDiff, M20Fs37]
    have O0 : OwnI h.size (h.push (.cells #[] 3)) 3 (some ⟨h.size, 0, none⟩) 0 0 [] := ⟨rfl, .inr ⟨h.size, #[], rfl, Nat.le_refl _, push_new, by simp, Nat.le_refl _, rfl⟩⟩
    refine app25 rfl rfl O0 (by simp) (hd.ext ((Ext.refl h).push _)) (by omega) fun a' c' h' O A => ?_
    simp only [coreS, Value.cells, Value.oneCell', Nat.reduceAdd, Nat.reduceSub, Nat.reduceMul, Nat.reduceLeDiff, Int.reduceEq, Nat.reduceEqDiff, M20Fs37]
    refine ⟨⟨a', c', rfl, by rw [Nat.zero_add] at O; exact O⟩, A.extN O0 ((Ext.refl h).push _) (Nat.le_refl _)⟩
theorem zsN_get {f : Nat → Nat} {m i : Nat} (hi : i < m) : (zsN ((List.range m).map f)).getD i 0 = ((f i : Nat) : Int) := by
  simp [zsN, List.getD_eq_getElem?_getD, hi]
theorem xor_all : ((List.range 14).all fun c => (List.range 14).all fun d => decide (bitsI .xor .i64 (c : Nat) (bitsI .xor .i64 (d : Nat) (c : Nat)) = (d : Nat)) && decide (bitsI .xor .i64 (d : Nat) (bitsI .xor .i64 (d : Nat) (c : Nat)) = (c : Nat))) = true := by kernel_rfl
theorem xor_two {c d : Nat} (hc : c < 14) (hd : d < 14) : bitsI .xor .i64 (c : Nat) (bitsI .xor .i64 (d : Nat) (c : Nat)) = (d : Nat) ∧ bitsI .xor .i64 (d : Nat) (bitsI .xor .i64 (d : Nat) (c : Nat)) = (c : Nat) := by
  have h1 := List.all_eq_true.1 xor_all c (List.mem_range.2 hc)
  have h2 := List.all_eq_true.1 h1 d (List.mem_range.2 hd)
  simpa using h2
def swj (C : Nat → Nat) (w d : Nat) (l : List Nat) (i : Nat) : Nat := if l.contains i then (if C i = d then C w else d) else C i
def swL (ws : List Wn) (days : List Int) (want day : Int) : List Nat := (List.range ws.length).map (swj (fun i => (natL days).getD i 0) want.toNat day.toNat (chnL ws days want day))
theorem swL_length {ws : List Wn} {days : List Int} {want day : Int} : (swL ws days want day).length = ws.length := by simp [swL]
theorem sw_put {C : Nat → Nat} {w d n i : Nat} {l : List Nat} {v : Nat} (hi : i < n) (hv : v = if C i = d then C w else d) : ((List.range n).map (swj C w d l)).set i v = (List.range n).map (swj C w d (l ++ [i])) := by
  refine List.ext_getElem? fun x => ?_
  rw [List.getElem?_set]
  by_cases hx : x < n
  · simp only [List.length_map, List.length_range, List.getElem?_map, List.getElem?_range hx, Option.map_some]
    by_cases e : i = x
    · subst e
      rw [if_pos rfl, if_pos hi]
      simp [swj, hv]
    · rw [if_neg e]
      have : (l ++ [i]).contains x = l.contains x := by
        rw [Bool.eq_iff_iff, List.contains_iff_mem, List.contains_iff_mem, List.mem_append, List.mem_singleton]
        constructor
        · rintro (h | h)
          · exact h
          · exact absurd h.symm e
        · exact .inl
      simp only [swj, this]
  · have h1 : ((List.range n).map (swj C w d l))[x]? = none := List.getElem?_eq_none (by simp; omega)
    have h2 : ((List.range n).map (swj C w d (l ++ [i])))[x]? = none := List.getElem?_eq_none (by simp; omega)
    rw [h1, h2, if_neg (by omega)]
structure SwapP (S M : Int) (ws : List Wn) (days : List Int) (want day : Int) (h0 : Nat) (h' : Eng.Heap) (v : Value) : Prop where
  ok : chnE S M ws days want day = 0 → ∃ a cap, v = .tuple #[.slice a ws.length cap, .int .i64 0] ∧ OwnI h0 h' 3 a ws.length cap (zsN (swL ws days want day))
  no : chnE S M ws days want day ≠ 0 → v = .tuple #[.slice none 0 0, .int .i64 (chnE S M ws days want day)]
theorem chnL_mem {ws : List Wn} {days : List Int} {w d i : Nat} (hw : w < ws.length) (hi : i ∈ chnL ws days (w : Int) (d : Int)) : i < ws.length ∧ MB.Ch (shN ws) (moN ws) (fun i => (natL days).getD i 0) ws.length w d i := by
  unfold chnL at hi
  rw [Int.toNat_natCast, Int.toNat_natCast] at hi
  obtain ⟨h1, h2⟩ := List.mem_filter.1 hi
  have h1 := List.mem_range.1 h1
  exact ⟨h1, (MB.cit_iff hw h1).1 h2⟩
theorem swap39 (S M : Int) (a : Option Addr) (n c : Nat) (ws : List Wn) (b : Option Addr) (m k : Nat) (days : List Int) (want day : Int) (h : Eng.Heap) (hr : Row h a (wsV ws)) (hn : n = ws.length) (hl : n ≤ 1000000) (hd : IntsV h b m days) (hm : m ≤ 1000000) :
    CallsH Tryz.prog 13 #[.agg #[.int .i64 S, .int .i64 M, .slice a n c], .slice b m k, .int .i64 want, .int .i64 day] h (fun v h' => SwapP S M ws days want day h.size h' v ∧ Ext h h') := by
  have hml := hd.len
  (refine CallsH_of_exec Tryz.func13 rfl bod13 ?_; simp only [Tryz.ntmps13, Tryz.results13, coreS, stK_some, splice, Value.cells, Value.oneCell', Nat.reduceAdd, Nat.reduceSub, Nat.reduceMul, Nat.reduceLeDiff, Int.reduceEq, Nat.reduceEqDiff, M20Fs13])
  have x0 : Ext h (h.push (.cells #[.int .i64 S, .int .i64 M, .slice a n c] 24)) := (Ext.refl h).push _
  refine CallsH.mono (chained80 S M a n c ws b m k days want day _ (hr.ext x0) hn hl (hd.ext x0) hm) ?_
  rintro v h1 ⟨P, x1⟩
  have y1 := x0.trans x1
  by_cases hE : chnE S M ws days want day = 0
  case neg =>
    have e := P.no hE
    subst e
    simp only [hE, decide_false, Bool.not_false, coreS, Value.cells, Value.oneCell', Nat.reduceAdd, Nat.reduceSub, Nat.reduceMul, Nat.reduceLeDiff, Int.reduceEq, Nat.reduceEqDiff, M20Fs13]
    exact ⟨⟨fun h0 => absurd h0 hE, fun _ => rfl⟩, y1⟩
  obtain ⟨aL, capL, rfl, OL⟩ := P.ok hE
  obtain ⟨c1, c2, c3, c4⟩ := chnE_ok hE
  obtain ⟨d1, d2, d3, d4⟩ := chkD_ok c1
  have hall := inB_iff.1 d3
  obtain ⟨s, mm, rfl, rfl, V⟩ := chk_ok d1
  have hV := V.n
  obtain ⟨w, rfl⟩ : ∃ w : Nat, want = w := ⟨want.toNat, by omega⟩
  obtain ⟨d, rfl⟩ : ∃ d : Nat, day = d := ⟨day.toNat, by omega⟩
  simp only [decide_true, Bool.not_true, coreS, Value.cells, Value.oneCell', Nat.reduceAdd, Nat.reduceSub, Nat.reduceMul, Nat.reduceLeDiff, Int.reduceEq, Nat.reduceEqDiff, M20Fs13]
  refine CallsH.mono (clone63 b m k days h1 (hd.ext y1) (by omega)) ?_
  rintro v h2 ⟨⟨a2, cap2, rfl, O2⟩, x2⟩
  have y2 := y1.trans x2
  obtain ⟨C, hC⟩ : ∃ C : Nat → Nat, C = fun i => (natL days).getD i 0 := ⟨_, rfl⟩
  have hCd : ∀ i, i < m → days.getD i 0 = (C i : Nat) ∧ C i < 14 := fun i hi => by
    have e1 : C i = (natL days).getD i 0 := by rw [hC]
    rw [e1, natL_get]
    have hm : days.getD i 0 ∈ days := by
      have : i < days.length := by omega
      simp [List.getD, List.getElem?_eq_getElem this]
    have := hall _ hm
    omega
  obtain ⟨L, hL⟩ : ∃ L, L = chnL ws days (w : Int) (d : Int) := ⟨_, rfl⟩
  rw [← hL] at OL
  have hLm : ∀ i ∈ L, i < m ∧ (C i = C w ∨ C i = d) := fun i hi => by
    rw [hL] at hi
    obtain ⟨q1, q2⟩ := chnL_mem (by omega) hi
    refine ⟨by omega, ?_⟩
    have := q2.col
    rw [hC]; exact this
  have hLn : L.Nodup := by rw [hL]; exact List.Pairwise.filter _ List.nodup_range
  have hLl : L.length ≤ m := by
    have := MB.nodup_le (m := List.range m) hLn fun x hx => List.mem_range.2 (hLm x hx).1
    simpa using this
  obtain ⟨g, tl, rfl, hg, hb2, hc2, hc3, _⟩ := O2.block (by omega)
  have hz0 : days = zsN ((List.range m).map (swj C w d [])) := by
    have h0 : ∀ x ∈ days, 0 ≤ x := fun x hx => (hall x hx).1
    have e1 := zsN_natL h0
    have e2 : (List.range m).map (swj C w d []) = natL days := by
      refine List.ext_getElem? fun x => ?_
      by_cases hx : x < m
      · simp only [List.getElem?_map, List.getElem?_range hx, Option.map_some]
        have hx2 : x < (natL days).length := by rw [natL_length]; omega
        rw [List.getElem?_eq_getElem hx2]
        simp [swj, hC, List.getD_eq_getElem?_getD, List.getElem?_eq_getElem hx2]
      · rw [List.getElem?_eq_none (by simp; omega), List.getElem?_eq_none (by rw [natL_length]; omega)]
    rw [e2, e1]
  have yl1 := y1.size
  have hs1 : h.size ≤ g := by omega
  have OL2 := OL.ext x2
  rw [← hL]
  simp only [coreS, Value.cells, Value.oneCell', Nat.reduceAdd, Nat.reduceSub, Nat.reduceMul, Nat.reduceLeDiff, Int.reduceEq, Nat.reduceEqDiff, M20Fs13]
  refine WP_loopI [14, 30, 31, 32, 33, 34, 35, 36, 37, 38, 39, 40, 41, 42, 43, 44, 45, 46] (fun e h' => Upd h2 h' g ∧ ∃ j : Nat, j ≤ L.length ∧ e 30 = .int .i64 j ∧ h'[g]? = some (.cells (Eng.ints (zsN ((List.range m).map (swj C w d (L.take j)))) ++ tl).toArray 3)) (fun e _ => match e 30 with | .int _ q => L.length - q.toNat | _ => 0) ⟨⟨rfl, fun _ _ => rfl⟩, 0, by omega, rfl, by rw [List.take_zero, ← hz0]; exact hb2⟩ ?_
  rintro e h' ⟨u, j, hj, he, hb⟩
  have hgl := lt_of_get hb2
  have hneL : ∀ p, aL = some p → p.block ≠ g := fun p hp => by have := (OL.lt hp).1; omega
  have OL' := OL2.keep (h' := h') fun p hp => u.old _ (hneL p hp)
  by_cases hjl : j < L.length
  · have hlt : (j : Int) < (L.length : Int) := by omega
    obtain ⟨i, hi⟩ : ∃ i, i = L[j] := ⟨_, rfl⟩
    have him : i ∈ L := by rw [hi]; exact List.getElem_mem hjl
    have hgd : (zsN L).getD j 0 = (i : Int) := by simp [zsN, List.getD_eq_getElem?_getD, List.getElem?_eq_getElem hjl, hi]
    have cl := OL'.ints.cell (j := j) (by rw [zsN_length]; exact hjl)
    rw [hgd] at cl
    have sL := OL'.ints.isSome (by rw [zsN_length]; omega)
    have hnot : i ∉ L.take j := fun hm => by
      obtain ⟨q, hq, e⟩ := List.getElem_of_mem hm
      rw [List.getElem_take] at e
      have hq2 : q < j := by rw [List.length_take] at hq; omega
      have := (List.pairwise_iff_getElem.1 hLn) q j (by omega) hjl hq2
      exact this (by rw [e, hi])
    obtain ⟨him1, hic⟩ := hLm i him
    have hcell : (Eng.ints (zsN ((List.range m).map (swj C w d (L.take j)))) ++ tl)[i]? = some (.int .i64 (C i : Nat)) := by
      have hln : i < (zsN ((List.range m).map (swj C w d (L.take j)))).length := by rw [zsN_length]; simp; omega
      rw [List.getElem?_append_left (by rw [Eng.ints_length]; exact hln), Eng.ints_getElem? _ _ hln]
      congr 2
      have hct : (L.take j).contains i = false := by rw [Bool.eq_false_iff, Ne, List.contains_iff_mem]; exact hnot
      rw [zsN_get him1]
      unfold swj
      rw [hct, if_neg (by simp)]
    have cw := ((hd.ext y2).ext (Ext.refl _)).cell (j := w) (by omega)
    have hdb : b.isSome = true := hd.isSome (by omega)
    have hneb : ∀ p, b = some p → p.block ≠ g := fun p hp => by
      rcases hd.row with h1 | ⟨g', off, cur, ct, fr, h1, h2, _⟩
      · have := hd.len; have hl0 : days.length = 0 := by simpa [Eng.ints] using congrArg List.length h1
        omega
      · rw [h1] at hp; cases hp
        have := lt_of_get h2
        show g' ≠ g
        omega
    have cw' : cellH h' (eltP b w) = some (.int .i64 (C w : Nat)) := by
      have hd' : IntsV h' b m days := ⟨hml, by
        rcases (hd.ext y2).row with h1 | ⟨g', off, cur, ct, fr, h1, h2, h3⟩
        · exact .inl h1
        · exact .inr ⟨g', off, cur, ct, fr, h1, u.get h2 (hneb _ h1), h3⟩⟩
      have := hd'.cell (j := w) (by omega)
      rw [(hCd w (by omega)).1] at this
      exact this
    have hv : bitsI .xor .i64 (C i : Nat) (bitsI .xor .i64 (d : Nat) (C w : Nat)) = ((if C i = d then C w else d : Nat) : Int) := by
      obtain ⟨q1, q2⟩ := xor_two (hCd w (by omega)).2 (show d < 14 by omega)
      by_cases hcd : C i = d
      · rw [if_pos hcd, hcd]; exact q2
      · rw [if_neg hcd]
        rcases hic with h1 | h1
        · rw [h1]; exact q1
        · exact absurd h1 hcd
    simp only [he, hlt, cl, decide_true, Int.toNat_natCast, coreS, Value.cells, Value.oneCell', Nat.reduceAdd, Nat.reduceSub, Nat.reduceMul, Nat.reduceLeDiff, Int.reduceEq, Nat.reduceEqDiff, M20Fs13]
    refine ⟨by omega, sL, ?_⟩
    refine WP_draw (by kernel_rfl) sta_eq [(0, 0), (1, 0), (2, 0), (3, 0), (4, 0), (5, 0), (6, 0), (7, 0), (8, 0), (9, 0), (10, 0), (11, 0), (12, 1)] (by kernel_rfl) rfl (by kernel_rfl) ?_
    simp only [hb, hcell, cw', Int.toNat_natCast, hvK_eq, coreS, Value.cells, Value.oneCell', Nat.reduceAdd, Nat.reduceSub, Nat.reduceMul, Nat.reduceLeDiff, Int.reduceEq, Nat.reduceEqDiff, drawS, M20Fs13]
    refine ⟨⟨by omega, by omega⟩, rfl, ⟨by omega, by omega⟩, hdb, ⟨by omega, by omega⟩, rfl, ?_⟩
    rw [hv]
    refine stK_abs hb (by simp [Eng.ints_length, zsN_length]; omega) fun h5 g5 u5 => ?_
    have hsp : splice (Eng.ints (zsN ((List.range m).map (swj C w d (L.take j)))) ++ tl) i [.int .i64 ((if C i = d then C w else d : Nat) : Int)] = Eng.ints (zsN ((List.range m).map (swj C w d (L.take (j + 1))))) ++ tl := by
      have hln : i < (zsN ((List.range m).map (swj C w d (L.take j)))).length := by rw [zsN_length]; simp; omega
      rw [splice_one _ _ _ (by simp [Eng.ints_length, zsN_length]; omega), List.set_append_left _ _ (by rw [Eng.ints_length]; exact hln), Eng.ints_set]
      congr 2
      rw [List.take_add_one, List.getElem?_eq_getElem hjl, ← hi]
      have := sw_put (C := C) (w := w) (d := d) (l := L.take j) him1 (v := if C i = d then C w else d) rfl
      unfold zsN
      rw [← List.map_set, this]
      rfl
    rw [hsp] at g5
    simp only [he, hvK_eq, coreS, Value.cells, Value.oneCell', Nat.reduceAdd, Nat.reduceSub, Nat.reduceMul, Nat.reduceLeDiff, Int.reduceEq, Nat.reduceEqDiff, drawS, M20Fs13]
    refine ⟨by rw [inK_i64]; omega, roundK_mk (by kernel_rfl) ⟨u.trans u5, j + 1, by omega, rfl, g5⟩ ?_⟩
    show L.length - ((j : Int) + 1).toNat < L.length - (j : Int).toNat
    omega
  · obtain rfl : j = L.length := by omega
    have hlt : ¬ ((L.length : Int) < (L.length : Int)) := by omega
    rw [List.take_length] at hb
    simp only [he, hlt, decide_false, coreS, Value.cells, Value.oneCell', Nat.reduceAdd, Nat.reduceSub, Nat.reduceMul, Nat.reduceLeDiff, Int.reduceEq, Nat.reduceEqDiff, M20Fs13]
    have e5 : (List.range m).map (swj C w d L) = swL ws days (w : Int) (d : Int) := by
      unfold swL
      rw [Int.toNat_natCast, Int.toNat_natCast, ← hC, ← hL, show m = ws.length by omega]
    rw [e5] at hb
    refine ⟨⟨fun _ => ⟨some ⟨g, 0, none⟩, cap2, by rw [show m = ws.length by omega], ?_⟩, fun hne => absurd hE hne⟩, u.ext y2 (by omega)⟩
    have hll : (zsN (swL ws days (w : Int) (d : Int))).length = ws.length := by rw [zsN_length, swL_length]
    have := OwnI.of_block (m := h.size) (cap := cap2) (xs := zsN (swL ws days (w : Int) (d : Int))) (g := g) (tl := tl) (by omega) hb (by omega) (by omega)
    rwa [hll] at this
end Go.Proofs.YtmgkeeefbfefgaaGreat
end
section
set_option linter.unusedVariables false
set_option linter.unusedSimpArgs false
namespace Go.Eng
open Go Go.ChangeShapes Go.WideShapes Go.ChangeAt Go.RowKit
section rowkit
variable {P : Program} {H : Type} {enc : TypeId × Value → H}
theorem same_of {W W' : World} (x : Ext W.heap W'.heap) {p : MemPlace} (hp : p.block < W.heap.size) : W.sameAt W' p := by
  have h := x.old p.block hp
  cases p with
  | cell b o => exact World.cell?_of_block (w := W) h
  | map b => exact h
theorem trodAll_ext (hl : laidOutB P = true) {W W' : World} (x : Ext W.heap W'.heap) {sp : Nat → Bool} : ∀ {ts : List TypeId} {vs : List Value} {ds : List (DataW H)} {ps : List MemPlace},
    (ts.all fun t => P.readableRec t && decide (t < P.types.size)) = true → DataW.TrodAll enc P W 0 (fun _ => true) true ts vs ds ps → (∀ p ∈ ps, p.block < W.heap.size) → (∀ p ∈ ps, sp p.block = true) → DataW.TrodAll enc P W' 0 sp true ts vs ds ps
  | [], [], [], ps, _, h, _, _ => h
  | t :: ts, v :: vs, d :: ds, ps, ht, ⟨p, q, h1, h2, he⟩, hb, hs => by
    subst he
    simp only [List.all_cons, Bool.and_eq_true, decide_eq_true_eq] at ht
    exact ⟨p, q, WideElems.Trod_stays hl ht.1.1 ht.1.2 h1 (fun y hy => same_of x (hb y (by simp [hy]))) (fun y hy => hs y (by simp [hy])),
      trodAll_ext hl x (by simpa using ht.2) h2 (fun y hy => hb y (by simp [hy])) (fun y hy => hs y (by simp [hy])), rfl⟩
theorem open_slice {W : World} {base b0 : Nat} {r : Reach} {sp : Nat → Bool} {held : Bool} {t e : TypeId} {v : Value} {d : DataW H} {ps : List MemPlace} (ht : P.underlying t = some (.slice e)) (he : P.underlying e = some (.int .i64)) (hc : P.cellsOf e = 1)
    (hval : Value.okWide P W r b0 t v) (hd : DataW.Trod enc P W base sp held t v d ps) : ∃ a n c xs, v = .slice a n c ∧ IntsV W.heap a n xs ∧ n ≤ c ∧ c ≤ maxLen ∧ ∀ x ∈ xs, (Lit.int .i64 x).wf = true := by
  obtain ⟨a0, n, c, rfl⟩ := okWide_slice ht hval
  obtain ⟨fuel, hf⟩ := hd
  rcases open_ints ht he hc hf with ⟨hcs, _⟩ | ⟨a, len, cap, zs, hcs, _, hl, hm, hz, _, hcell, hw⟩
  · simp [Value.cells] at hcs
    obtain ⟨rfl, rfl, rfl⟩ := hcs
    exact ⟨none, 0, 0, [], rfl, IntsV.nil _, by omega, by omega, by simp⟩
  · simp [Value.cells] at hcs
    obtain ⟨rfl, rfl, rfl⟩ := hcs
    have hlz : n ≤ zs.length := by rw [hz]; split <;> omega
    refine ⟨some a, n, c, zs.take n, rfl, ⟨by simp; omega, ?_⟩, hl, hm, fun x hx => hw x (List.mem_of_mem_take hx)⟩
    by_cases hn : n = 0
    · left; subst hn; simp [Eng.ints]
    · right
      have h0 := hcell 0 (by omega)
      have key : ∀ i u, W.cell? (a.add i) = some u → (i = 0 → a.spot = none) ∧ ∃ cur ct fr, W.heap[a.block]? = some (.cells cur ct fr) ∧ cur[a.off + i]? = some u := by
        intro i u hu
        unfold World.cell? Addr.add at hu
        by_cases hi : i = 0
        · subst hi
          simp only [if_true] at hu
          split at hu <;> simp_all
        · simp only [hi, if_false] at hu
          split at hu <;> simp_all
      obtain ⟨hsp, cur, ct, fr, hb, _⟩ := key 0 _ h0
      have hcur : ∀ i, i < zs.length → cur[a.off + i]? = some (.int .i64 (zs.getD i 0)) := fun i hi => by
        obtain ⟨_, cur2, ct2, fr2, hb2, hc2⟩ := key i _ (hcell i hi)
        rw [hb] at hb2
        cases hb2
        exact hc2
      have hsz : a.off + n ≤ cur.size := by
        have := hcur (n - 1) (by omega)
        have := (Array.getElem?_eq_some_iff.1 this).1
        omega
      obtain ⟨b, off, spot⟩ := a
      replace hsp := hsp rfl
      simp only at hsp hb hcur hsz
      subst hsp
      refine ⟨b, off, cur, ct, fr, rfl, hb, by simp [Eng.ints_length]; omega, ?_⟩
      apply List.ext_getElem?
      intro i
      rw [Eng.ints_length, List.length_take, List.getElem?_take, List.getElem?_drop]
      by_cases hi : i < n
      · rw [if_pos (by omega), Array.getElem?_toList, hcur i (by omega), Eng.ints_getElem? _ _ (by simp; omega)]
        simp [List.getD, List.getElem?_take, hi]
      · rw [if_neg (by omega), List.getElem?_eq_none]
        rw [Eng.ints_length, List.length_take]; omega
theorem calls_ext {f : FuncId} {args : Array Value} {W : World} {b : Bool} (hc : CallsH P f args W.heap (fun v h' => v = .bool b ∧ Ext W.heap h')) : Calls P f args W fun e W' => e = .returned (.bool b) ∧ Ext W.heap W'.heap ∧ Rest W W' := by
  unfold CallsH CallsW at hc
  refine Calls.mono (hc.2 W rfl) ?_
  rintro e W' ⟨v, rfl, ⟨rfl, x⟩, r⟩
  exact ⟨rfl, x, r⟩
end rowkit
end Go.Eng
end
section
set_option linter.unusedVariables false
set_option linter.unusedSimpArgs false
namespace Go.Eng
open Go Go.ChangeShapes Go.WideShapes Go.ChangeAt Go.RowKit
theorem row_of {W : World} {a : Addr} {vs : List Value} (hc : ∀ i (hi : i < vs.length), W.cell? (a.add i) = some vs[i]) : Row W.heap (some a) vs := by
  by_cases hn : vs.length = 0
  · left; exact List.eq_nil_of_length_eq_zero hn
  right
  have key : ∀ i u, W.cell? (a.add i) = some u → (i = 0 → a.spot = none) ∧ ∃ cur ct fr, W.heap[a.block]? = some (.cells cur ct fr) ∧ cur[a.off + i]? = some u := by
    intro i u hu
    unfold World.cell? Addr.add at hu
    by_cases hi : i = 0
    · subst hi
      simp only [if_true] at hu
      split at hu <;> simp_all
    · simp only [hi, if_false] at hu
      split at hu <;> simp_all
  obtain ⟨hsp, cur, ct, fr, hb, _⟩ := key 0 _ (hc 0 (by omega))
  have hcur : ∀ i (hi : i < vs.length), cur[a.off + i]? = some vs[i] := fun i hi => by
    obtain ⟨_, cur2, ct2, fr2, hb2, hc2⟩ := key i _ (hc i hi)
    rw [hb] at hb2
    cases hb2
    exact hc2
  have hsz : a.off + vs.length ≤ cur.size := by
    have := hcur (vs.length - 1) (by omega)
    have := (Array.getElem?_eq_some_iff.1 this).1
    omega
  obtain ⟨b, off, spot⟩ := a
  replace hsp := hsp rfl
  simp only at hsp hb hcur hsz
  subst hsp
  refine ⟨b, off, cur, ct, fr, rfl, hb, hsz, ?_⟩
  apply List.ext_getElem?
  intro i
  rw [List.getElem?_take, List.getElem?_drop]
  by_cases hi : i < vs.length
  · rw [if_pos hi, Array.getElem?_toList, hcur i hi, List.getElem?_eq_getElem hi]
  · rw [if_neg hi, List.getElem?_eq_none (by omega)]
theorem list_choose {α : Type} {p : Nat → α → Prop} : ∀ n, (∀ i < n, ∃ x, p i x) → ∃ l : List α, l.length = n ∧ ∀ i (hi : i < l.length), p i l[i]
  | 0, _ => ⟨[], rfl, fun i hi => by simp at hi⟩
  | n + 1, H => by
    obtain ⟨l, hl, h⟩ := list_choose n fun i hi => H i (by omega)
    obtain ⟨x, hx⟩ := H n (by omega)
    refine ⟨l ++ [x], by simp [hl], fun i hi => ?_⟩
    by_cases hin : i < l.length
    · rw [List.getElem_append_left hin]; exact h i hin
    · have : i = l.length := by simp at hi; omega
      subst this
      rw [List.getElem_append_right (Nat.le_refl _)]
      simpa [hl] using hx
end Go.Eng
end
section
namespace Go.Proofs.YtmgkeeefbfefgaaGreat
open Go Go.Proofs Go.Eng Tab Go.ChangeShapes Go.WideShapes Go.ChangeAt Go.RowKit
set_option maxRecDepth 100000
set_option linter.unusedSimpArgs false
set_option linter.unusedVariables false
theorem row_of {W : World} {a : Addr} {vs : List Value} (hc : ∀ i (hi : i < vs.length), W.cell? (a.add i) = some vs[i]) : Row W.heap (some a) vs := by
  by_cases hn : vs.length = 0
  · left; exact List.eq_nil_of_length_eq_zero hn
  right
  have key : ∀ i u, W.cell? (a.add i) = some u → (i = 0 → a.spot = none) ∧ ∃ cur ct fr, W.heap[a.block]? = some (.cells cur ct fr) ∧ cur[a.off + i]? = some u := by
    intro i u hu
    unfold World.cell? Addr.add at hu
    by_cases hi : i = 0
    · subst hi
      simp only [if_true] at hu
      split at hu <;> simp_all
    · simp only [hi, if_false] at hu
      split at hu <;> simp_all
  obtain ⟨hsp, cur, ct, fr, hb, _⟩ := key 0 _ (hc 0 (by omega))
  have hcur : ∀ i (hi : i < vs.length), cur[a.off + i]? = some vs[i] := fun i hi => by
    obtain ⟨_, cur2, ct2, fr2, hb2, hc2⟩ := key i _ (hc i hi)
    rw [hb] at hb2
    cases hb2
    exact hc2
  have hsz : a.off + vs.length ≤ cur.size := by
    have := hcur (vs.length - 1) (by omega)
    have := (Array.getElem?_eq_some_iff.1 this).1
    omega
  obtain ⟨b, off, spot⟩ := a
  replace hsp := hsp rfl
  simp only at hsp hb hcur hsz
  subst hsp
  refine ⟨b, off, cur, ct, fr, rfl, hb, hsz, ?_⟩
  apply List.ext_getElem?
  intro i
  rw [List.getElem?_take, List.getElem?_drop]
  by_cases hi : i < vs.length
  · rw [if_pos hi, Array.getElem?_toList, hcur i hi, List.getElem?_eq_getElem hi]
  · rw [if_neg hi, List.getElem?_eq_none (by omega)]
theorem list_choose {α : Type} {p : Nat → α → Prop} : ∀ n, (∀ i < n, ∃ x, p i x) → ∃ l : List α, l.length = n ∧ ∀ i (hi : i < l.length), p i l[i]
  | 0, _ => ⟨[], rfl, fun i hi => by simp at hi⟩
  | n + 1, H => by
    obtain ⟨l, hl, h⟩ := list_choose n fun i hi => H i (by omega)
    obtain ⟨x, hx⟩ := H n (by omega)
    refine ⟨l ++ [x], by simp [hl], fun i hi => ?_⟩
    by_cases hin : i < l.length
    · rw [List.getElem_append_left hin]; exact h i hin
    · have : i = l.length := by simp at hi; omega
      subst this
      rw [List.getElem_append_right (Nat.le_refl _)]
      simpa [hl] using hx
section opens
variable {H : Type} {enc : TypeId × Value → H} {W : World} {base b0 : Nat} {r : Reach} {sp : Nat → Bool} {held : Bool} {v : Value} {d : DataW H} {ps : List MemPlace}
theorem cel3 : Tryz.prog.cellsOf 3 = 1 := by kernel_rfl
theorem cel22 : Tryz.prog.cellsOf 22 = 1 := by kernel_rfl
theorem cel24 : Tryz.prog.cellsOf 24 = 3 := by kernel_rfl
theorem cel58 : Tryz.prog.cellsOf 72 = 2 := by kernel_rfl
theorem wsV_at (es : List Wn) (j k : Nat) (hj : j < es.length) (hk : k < 2) : (wsV es)[j * 2 + k]? = (wnV es[j])[k]? := by
  have h := wsV_get es j hj
  have : (((wsV es).drop (j * 2)).take 2)[k]? = (wnV es[j])[k]? := by rw [h]
  rwa [List.getElem?_take, if_pos hk, List.getElem?_drop] at this
theorem trod_wn {fuel : Nat} {cs : List Value} {x : DataW H × List MemPlace} (h : DataW.trod enc Tryz.prog W base sp held fuel 72 cs = some x) : ∃ e : Wn, cs = wnV e := by
  obtain ⟨xs, n, rfl, rfl, hl, hxl, hf⟩ := DataW.trod_struct Tryz.underlying72 h
  rw [cel58] at hl
  obtain ⟨c0, c1, rfl⟩ : ∃ c0 c1, cs = [c0, c1] := by
    match cs, hl with
    | [c0, c1], _ => exact ⟨_, _, rfl⟩
  obtain ⟨y0, y1, rfl⟩ : ∃ y0 y1, xs = [y0, y1] := by
    match xs, hxl with
    | [y0, y1], _ => exact ⟨_, _, rfl⟩
  have f0 : DataW.trod enc Tryz.prog W base sp held n 3 (([c0, c1].drop 0).take (Tryz.prog.cellsOf 3)) = some y0 := hf 0 _ rfl
  have f1 : DataW.trod enc Tryz.prog W base sp held n 3 (([c0, c1].drop 1).take (Tryz.prog.cellsOf 3)) = some y1 := hf 1 _ rfl
  rw [cel3] at f0 f1
  obtain ⟨n0, e0, _, w0⟩ := DataW.trod_int Tryz.underlying3 f0
  obtain ⟨n1, e1, _, w1⟩ := DataW.trod_int Tryz.underlying3 f1
  simp at e0 e1
  subst e0 e1
  exact ⟨⟨n0, n1⟩, rfl⟩
theorem trod_row {fuel : Nat} {cs : List Value} {x : DataW H × List MemPlace} (h : DataW.trod enc Tryz.prog W base sp held fuel 22 cs = some x) : ∃ a n c es, cs = [.slice a n c] ∧ Row W.heap a (wsV es) ∧ n = es.length := by
  rcases DataW.trod_slice Tryz.underlying22 h with ⟨rfl, _⟩ | ⟨a, len, cap, elems, rest, m, rfl, rfl, rfl, hb, hl, hm, hlen, hel, _, _⟩
  · exact ⟨none, 0, 0, [], rfl, .inl rfl, rfl⟩
  rw [cel58] at hel
  have each : ∀ i, i < len → ∃ e : Wn, ∀ k (hk : k < 2), W.cell? (a.add (i * 2 + k)) = (wnV e)[k]? := by
    intro i hi
    have h1 := hel i hi
    rw [List.getElem?_eq_getElem (by omega), Option.bind_eq_some_iff] at h1
    obtain ⟨cs, h2, h3⟩ := h1
    obtain ⟨e, rfl⟩ := trod_wn h3
    refine ⟨e, fun k hk => ?_⟩
    have h4 := (World.cells?_some h2).2.2 k hk
    rw [← h4]
    congr 1
    unfold Addr.add
    split <;> split <;> split <;> simp_all <;> omega
  obtain ⟨es, hes, hE⟩ := list_choose len each
  refine ⟨some a, len, cap, es, rfl, row_of fun i hi => ?_, hes.symm⟩
  rw [wsV_length] at hi
  have h1 := hE (i / 2) (by omega) (i % 2) (by omega)
  rw [show i / 2 * 2 + i % 2 = i by omega] at h1
  rw [h1, ← wsV_at es (i / 2) (i % 2) (by omega) (by omega), show i / 2 * 2 + i % 2 = i by omega, List.getElem?_eq_getElem (by rw [wsV_length]; omega)]
theorem open_book (hval : Value.okWide Tryz.prog W r b0 24 v) (hd : DataW.Trod enc Tryz.prog W base sp held 24 v d ps) : ∃ ac cl a n c es, v = .agg #[.int .i64 ac, .int .i64 cl, .slice a n c] ∧ Row W.heap a (wsV es) ∧ n = es.length := by
  obtain ⟨cs, rfl, hs⟩ := okWide_struct Tryz.underlying24 hval
  obtain ⟨fuel, hf⟩ := hd
  obtain ⟨xs, n, rfl, _, hl, hxl, hf⟩ := DataW.trod_struct Tryz.underlying24 hf
  rw [cel24] at hl
  simp only [Value.cells] at hl hf
  obtain ⟨cs⟩ := cs
  simp only at hl hf
  obtain ⟨c0, c1, c2, rfl⟩ : ∃ c0 c1 c2, cs = [c0, c1, c2] := by
    match cs, hl with
    | [c0, c1, c2], _ => exact ⟨_, _, _, rfl⟩
  obtain ⟨y0, y1, y2, rfl⟩ : ∃ y0 y1 y2, xs = [y0, y1, y2] := by
    match xs, hxl with
    | [y0, y1, y2], _ => exact ⟨_, _, _, rfl⟩
  have f0 : DataW.trod enc Tryz.prog W base sp held n 3 (([c0, c1, c2].drop 0).take (Tryz.prog.cellsOf 3)) = some y0 := hf 0 _ rfl
  have f1 : DataW.trod enc Tryz.prog W base sp held n 3 (([c0, c1, c2].drop 1).take (Tryz.prog.cellsOf 3)) = some y1 := hf 1 _ rfl
  have f2 : DataW.trod enc Tryz.prog W base sp held n 22 (([c0, c1, c2].drop 2).take (Tryz.prog.cellsOf 22)) = some y2 := hf 2 _ rfl
  rw [cel3] at f0 f1
  rw [cel22] at f2
  obtain ⟨n0, e0, _, w0⟩ := DataW.trod_int Tryz.underlying3 f0
  obtain ⟨n1, e1, _, w1⟩ := DataW.trod_int Tryz.underlying3 f1
  obtain ⟨a, m, c, es, e2, hr, hm⟩ := trod_row f2
  simp at e0 e1 e2
  subst e0 e1 e2
  exact ⟨n0, n1, a, m, c, es, rfl, hr, hm⟩
end opens
end Go.Proofs.YtmgkeeefbfefgaaGreat
end
