/- Walks: CheckDays, of the program. -/
import Derived.Test.YtmgkeeefbfefgaaM9
namespace Go.Proofs.Ytmgkeeefbfefgaa
open Go Go.Proofs Go.Eng Go.Run Tab
set_option maxRecDepth 100000
set_option linter.unusedSimpArgs false
set_option linter.unusedVariables false
set_option linter.defProp false
set_option maxHeartbeats 1000000
set_option linter.defProp false
def M10Fs20 := (And.intro (And.intro (And.intro @agg22 (And.intro @agg24 @agg3)) (And.intro @by3 (And.intro @fo24_2 @inf22))) (And.intro (And.intro @inf24 (And.intro @inf3 @sz22)) (And.intro (And.intro @sz24 @sz3) (And.intro @Try.underlying22 @Try.underlying25))))
def natL (xs : List Int) : List Nat := xs.map Int.toNat
theorem natL_length (xs : List Int) : (natL xs).length = xs.length := by simp [natL]
theorem natL_get (xs : List Int) (i : Nat) : (natL xs).getD i 0 = (xs.getD i 0).toNat := by
  simp only [natL, List.getD, List.getElem?_map]
  cases xs[i]? <;> rfl
def zsN (l : List Nat) : List Int := l.map fun j : Nat => (j : Int)
theorem zsN_natL {xs : List Int} (h : ∀ x ∈ xs, 0 ≤ x) : zsN (natL xs) = xs := by
  unfold zsN natL
  rw [List.map_map]
  conv => rhs; rw [← List.map_id xs]
  refine List.map_congr_left fun x hx => ?_
  have := h x hx
  show ((x.toNat : Nat) : Int) = x
  omega
theorem natL_zsN (l : List Nat) : natL (zsN l) = l := by
  unfold zsN natL
  rw [List.map_map]
  conv => rhs; rw [← List.map_id l]
  exact List.map_congr_left fun x hx => by simp
/-- Days are right. -/
def rightD (ws : List Wn) (days : List Int) : Prop := MB.rightL (shN ws) (moN ws) (natL days)
open Classical in
/-- The error of CheckDays. -/
noncomputable def chkD (S M : Int) (ws : List Wn) (days : List Int) : Int :=
  if chk S M ws ≠ 0 then chk S M ws else if days.length ≠ ws.length then 15 else if inB 0 13 days = false then 3 else if rightD ws days then 0 else 18
noncomputable def difD (S M : Int) (ws : List Wn) (days : List Int) : Int := if chkD S M ws days = 0 then (MB.dif (natL days) : Nat) else 0
theorem chkD_ok {S M : Int} {ws : List Wn} {days : List Int} (H : chkD S M ws days = 0) : chk S M ws = 0 ∧ days.length = ws.length ∧ inB 0 13 days = true ∧ rightD ws days := by
  unfold chkD at H
  split at H
  · rename_i h; exact absurd H h
  rename_i h1
  split at H
  · omega
  rename_i h2
  split at H
  · omega
  rename_i h3
  split at H
  · rename_i h4; exact ⟨Classical.not_not.1 h1, Classical.not_not.1 h2, by simpa using h3, h4⟩
  · omega
def onL (c : Nat → Nat) (i : Nat) : List (Nat × Nat) := (List.range i).map fun k => (k, c k)
theorem onL_succ (c : Nat → Nat) (i : Nat) : onL c (i + 1) = onL c i ++ [(i, c i)] := by simp [onL, List.range_succ]
theorem held_iff {sh mo : Nat → Nat} {L : List (Nat × Nat)} {k : Sk} : held sh mo L k = true ↔ ∃ x ∈ L, k = (0, sh x.1, x.2) ∨ k = (1, mo x.1, x.2) := by
  simp [held]
theorem fits_iff {sh mo : Nat → Nat} {L : List (Nat × Nat)} {i d : Nat} : fits sh mo L i d = true ↔ ∀ x ∈ L, x.2 = d → sh x.1 ≠ sh i ∧ mo x.1 ≠ mo i := by
  unfold fits
  rw [Bool.and_eq_true, Bool.not_eq_true', Bool.not_eq_true', ← Bool.not_eq_true, ← Bool.not_eq_true, held_iff, held_iff]
  constructor
  · rintro ⟨h1, h2⟩ x hx rfl
    exact ⟨fun e => h1 ⟨x, hx, .inl (by rw [e])⟩, fun e => h2 ⟨x, hx, .inr (by rw [e])⟩⟩
  · intro H
    refine ⟨?_, ?_⟩
    · rintro ⟨x, hx, h | h⟩
      · simp only [Prod.mk.injEq] at h; exact (H x hx h.2.2.symm).1 h.2.1.symm
      · simp at h
    · rintro ⟨x, hx, h | h⟩
      · simp at h
      · simp only [Prod.mk.injEq] at h; exact (H x hx h.2.2.symm).2 h.2.1.symm
theorem fits_on {sh mo c : Nat → Nat} {i d : Nat} : fits sh mo (onL c i) i d = true ↔ ∀ k, k < i → c k = d → sh k ≠ sh i ∧ mo k ≠ mo i := by
  rw [fits_iff]
  constructor
  · intro H k hk e
    exact H (k, c k) (List.mem_map.2 ⟨k, List.mem_range.2 hk, rfl⟩) e
  · intro H x hx e
    simp only [onL, List.mem_map, List.mem_range] at hx
    obtain ⟨k, hk, rfl⟩ := hx
    exact H k hk e
theorem right_step {sh mo c : Nat → Nat} {i : Nat} : MB.right sh mo c (i + 1) ↔ MB.right sh mo c i ∧ ∀ k, k < i → c k = c i → sh k ≠ sh i ∧ mo k ≠ mo i := by
  constructor
  · intro H
    exact ⟨fun a b ha hb => H a b (by omega) (by omega), fun k hk e => H k i (by omega) (by omega) (by omega) e⟩
  · rintro ⟨H1, H2⟩ a b ha hb hne e
    by_cases h1 : a < i <;> by_cases h2 : b < i
    · exact H1 a b h1 h2 hne e
    · obtain rfl : b = i := by omega
      exact H2 a h1 e
    · obtain rfl : a = i := by omega
      have := H2 b h2 e.symm
      exact ⟨fun e => this.1 e.symm, fun e => this.2 e.symm⟩
    · omega
theorem compact_len {ys : List Int} {days : List Int} (hp : ys.Perm days) (hs : srt ys) (h0 : ∀ x ∈ days, 0 ≤ x) : (Lib.compact ys).length = MB.dif (natL days) := by
  refine MB.compact_dif (days := natL days) ?_ hs
  have := zsN_natL h0
  unfold zsN at this
  rw [this]; exact hp
theorem checkDays20 (S M : Int) (a : Option Addr) (n c : Nat) (ws : List Wn) (b : Option Addr) (m k : Nat) (days : List Int) (h : Eng.Heap) (hr : Row h a (wsV ws)) (hn : n = ws.length) (hl : n ≤ 1000000) (hd : IntsV h b m days) (hm : m ≤ 1000000) :
    CallsH Try.prog 20 #[.agg #[.int .i64 S, .int .i64 M, .slice a n c], .slice b m k] h (fun v h' => v = .tuple #[.int .i64 (difD S M ws days), .int .i64 (chkD S M ws days)] ∧ Ext h h') := by
  have hml := hd.len
  (refine CallsH_of_exec Try.func20 rfl bod20 ?_; simp only [Try.ntmps20, Try.results20, coreS, stK_some, splice, Value.cells, Value.oneCell', Nat.reduceAdd, Nat.reduceSub, Nat.reduceMul, Nat.reduceLeDiff, Int.reduceEq, Nat.reduceEqDiff, M10Fs20])
  have x0 : Ext h (h.push (.cells #[.int .i64 S, .int .i64 M, .slice a n c] 24)) := (Ext.refl h).push _
  have fin : ∀ {e : Int} {Q : Prop}, chkD S M ws days = e → e ≠ 0 → Q → Value.tuple #[.int .i64 0, .int .i64 e] = Value.tuple #[.int .i64 (difD S M ws days), .int .i64 (chkD S M ws days)] ∧ Q := fun h1 h2 q => ⟨by unfold difD; rw [h1, if_neg h2], q⟩
  refine CallsH.mono (open49 S M a n c ws _ (hr.push _) hn hl) ?_
  rintro v h1 ⟨x1, ⟨s, mm, rfl, rfl, V, g, mb, rfl, hg, hmb, hgs, hbs⟩ | ⟨hc, rfl⟩⟩
  rotate_left
  · simp only [hc, decide_false, Bool.not_false, coreS, Value.cells, Value.oneCell', Nat.reduceAdd, Nat.reduceSub, Nat.reduceMul, Nat.reduceLeDiff, Int.reduceEq, Nat.reduceEqDiff, M10Fs20]
    exact fin (by unfold chkD; rw [if_pos hc]) hc (x0.trans x1)
  have hb1 := x1.get (push_new (h := h))
  have y1 := x0.trans x1
  have hc0 := V.chk
  simp only [hb1, Bool.not_true, decide_true, coreS, Value.cells, Value.oneCell', Nat.reduceAdd, Nat.reduceSub, Nat.reduceMul, Nat.reduceLeDiff, Int.reduceEq, Nat.reduceEqDiff, M10Fs20]
  refine ⟨fun heq => ?_, fun hne => fin (by unfold chkD; rw [if_neg (by simpa using hc0), if_pos (by omega)]) (by omega) y1⟩
  refine CallsH.mono (within52 0 13 b m k days h1 (hd.ext y1) hm) ?_
  rintro v h2 ⟨rfl, x2⟩
  have y2 := y1.trans x2
  cases hin : inB 0 13 days with
  | false =>
    simp only [Bool.not_false, coreS, Value.cells, Value.oneCell', Nat.reduceAdd, Nat.reduceSub, Nat.reduceMul, Nat.reduceLeDiff, Int.reduceEq, Nat.reduceEqDiff, M10Fs20]
    exact fin (by unfold chkD; rw [if_neg (by simpa using hc0), if_neg (by omega), if_pos hin]) (by omega) y2
  | true =>
  have hg2 := x2.get hg
  have hmb2 := x2.get hmb
  have hall := inB_iff.1 hin
  obtain ⟨C, hC⟩ : ∃ C : Nat → Nat, C = fun i => (natL days).getD i 0 := ⟨_, rfl⟩
  have hCd : ∀ i, i < m → days.getD i 0 = (C i : Nat) := fun i hi => by
    have e1 : C i = (natL days).getD i 0 := by rw [hC]
    rw [e1, natL_get]
    have hm : days.getD i 0 ∈ days := by
      have : i < days.length := by omega
      simp [List.getD, List.getElem?_eq_getElem this]
    have := hall _ hm
    omega
  have hRD : ∀ j, j ≤ m → ¬ MB.right (shN ws) (moN ws) C j → ¬ rightD ws days := fun j hj hn hr => by
    unfold rightD MB.rightL at hr
    rw [natL_length, ← hC] at hr
    exact hn fun a b ha hb => hr a b (by omega) (by omega)
  have hgs1 := lt_of_get hg
  simp only [Bool.not_true, coreS, Value.cells, Value.oneCell', Nat.reduceAdd, Nat.reduceSub, Nat.reduceMul, Nat.reduceLeDiff, Int.reduceEq, Nat.reduceEqDiff, M10Fs20]
  have hgm : g ≠ mb := fun e => by unfold DeskB at hg; rw [e, hmb] at hg; cases hg
  rw [push_size] at hbs hgs
  have hM0 : MapV kvS h2 mb [] 0 := ⟨by simpa using hmb2, by simp, by simp⟩
  refine WP_loopI [4, 5, 8, 9, 33, 34, 35, 36, 37, 38, 39, 40, 41, 42, 43] (fun e h' => Chg h2 h' mb ∧ DeskB h' g mb s mm a n c ∧ ∃ i : Nat, i ≤ m ∧ e 33 = .int .i64 i ∧ (∃ es c0, MapV kvS h' mb es c0 ∧ Hold (shN ws) (moN ws) es (onL C i)) ∧ MB.right (shN ws) (moN ws) C i) (fun e _ => match e 33 with | .int _ q => m - q.toNat | _ => 0) ⟨Chg.refl _ _, hg2, 0, by omega, rfl, ⟨_, _, hM0, Hold.nil⟩, fun a b ha => by omega⟩ ?_
  rintro e h' ⟨ch, hg', i, hi, he, ⟨es, c0, Mp, H⟩, hR⟩
  have hd' := (hd.ext y2).chg hmb2 ch
  have hr' := (hr.ext y2).chg hmb2 ch
  by_cases hil : i < days.length
  · have hlt : (i : Int) < (m : Int) := by omega
    have hcell := hd'.cell hil
    rw [hCd i (by omega)] at hcell
    simp only [he, hlt, hcell, decide_true, coreS, Value.cells, Value.oneCell', Nat.reduceAdd, Nat.reduceSub, Nat.reduceMul, Nat.reduceLeDiff, Int.reduceEq, Nat.reduceEqDiff, M10Fs20]
    refine ⟨by omega, hd.isSome (by omega), ?_⟩
    refine CallsH.mono (hang53 g mb s mm a n c ws i (C i) es c0 _ h' hg' hr' hn V (by omega) Mp H) ?_
    rintro v h3 ⟨rfl, ch3, es', c', Mp3, H3⟩
    cases hf : fits (shN ws) (moN ws) (onL C i) i (C i) with
    | false =>
      simp only [Bool.not_false, coreS, Value.cells, Value.oneCell', Nat.reduceAdd, Nat.reduceSub, Nat.reduceMul, Nat.reduceLeDiff, Int.reduceEq, Nat.reduceEqDiff, M10Fs20]
      refine fin ?_ (by omega) (Chg.fresh y2 (ch.trans ch3) (by omega))
      unfold chkD
      rw [if_neg (by simpa using hc0), if_neg (by omega), if_neg (by simp [hin]), if_neg]
      refine hRD (i + 1) (by omega) fun hr1 => ?_
      have := fits_on.2 (right_step.1 hr1).2
      rw [hf] at this; cases this
    | true =>
      rw [hf, if_pos rfl, ← onL_succ] at H3
      simp only [Bool.not_true, coreS, Value.cells, Value.oneCell', Nat.reduceAdd, Nat.reduceSub, Nat.reduceMul, Nat.reduceLeDiff, Int.reduceEq, Nat.reduceEqDiff, M10Fs20]
      refine ⟨by rw [inK_i64]; omega, roundK_mk (by kernel_rfl) ⟨ch.trans ch3, ch3.get hg' hgm, i + 1, by omega, rfl, ⟨_, _, Mp3, H3⟩, right_step.2 ⟨hR, fits_on.1 hf⟩⟩ ?_⟩
      show m - ((i : Int) + 1).toNat < m - (i : Int).toNat
      omega
  · obtain rfl : i = m := by omega
    have hlt : ¬ ((i : Int) < (i : Int)) := by omega
    have hD : chkD (s : Int) (mm : Int) ws days = 0 := by
      unfold chkD
      rw [if_neg (by simpa using hc0), if_neg (by omega), if_neg (by simp [hin]), if_pos]
      unfold rightD MB.rightL
      rw [natL_length, ← hC, ← hml]
      exact hR
    have z3 : Ext h h' := Chg.fresh y2 ch (by omega)
    have V3 := V.n
    simp only [he, hlt, decide_false, coreS, Value.cells, Value.oneCell', Nat.reduceAdd, Nat.reduceSub, Nat.reduceMul, Nat.reduceLeDiff, Int.reduceEq, Nat.reduceEqDiff, M10Fs20]
    refine CallsH.mono (values55 b i k h') ?_
    rintro v h3 ⟨rfl, rfl⟩
    have hseq := values_seq (bx := h'.size) (n := i) (c := k) (a := b) (xs := days) hml hm
    simp only [coreS, Value.cells, Value.oneCell', Nat.reduceAdd, Nat.reduceSub, Nat.reduceMul, Nat.reduceLeDiff, Int.reduceEq, Nat.reduceEqDiff, M10Fs20]
    refine CallsH.mono (sorted54 _ days _ hseq (by omega) fun h4 x4 => ⟨x4.get push_new, (hd'.ext ((Ext.refl h').push _)).ext x4⟩) ?_
    rintro v h4 ⟨x4, ys, hp, hs, a4, cap, rfl, O⟩
    have hcl := compact_len hp hs fun x hx => (hall x hx).1
    have z4 : Ext h h4 := z3.trans (x4.of_push)
    have hD2 : difD (s : Int) (mm : Int) ws days = ((Lib.compact ys).length : Nat) := by unfold difD; rw [if_pos hD, hcl]
    simp only [coreS, Value.cells, Value.oneCell', Nat.reduceAdd, Nat.reduceSub, Nat.reduceMul, Nat.reduceLeDiff, Int.reduceEq, Nat.reduceEqDiff, M10Fs20]
    by_cases h0 : 0 < ys.length
    · obtain ⟨g4, tl, rfl, hg4, hb4, hc4, hc5, _⟩ := O.block h0
      refine CallsH.mono (compact56 g4 cap _ ys tl h4 hb4 rfl hc5 (by rw [hp.length_eq]; omega)) ?_
      rintro v h5 ⟨rfl, u5⟩
      rw [push_size] at hg4
      have := z3.size
      simp only [hD, hD2, coreS, Value.cells, Value.oneCell', Nat.reduceAdd, Nat.reduceSub, Nat.reduceMul, Nat.reduceLeDiff, Int.reduceEq, Nat.reduceEqDiff, M10Fs20]
      exact u5.ext z4 (by omega)
    · obtain rfl : ys = [] := List.length_eq_zero_iff.1 (by omega)
      refine CallsH.mono (compact0 a4 cap h4) ?_
      rintro v h5 ⟨rfl, rfl⟩
      have e0 : (Lib.compact ([] : List Int)).length = 0 := by rfl
      simp only [hD, hD2, e0, coreS, Value.cells, Value.oneCell', Nat.reduceAdd, Nat.reduceSub, Nat.reduceMul, Nat.reduceLeDiff, Int.reduceEq, Nat.reduceEqDiff, M10Fs20]
      exact z4
end Go.Proofs.Ytmgkeeefbfefgaa
