/- MouldServed returns true. -/
import Derived.Test.YtmgkeeefbfefgaaPDQM42
import Derived.Test.YtmgkeeefbfefgaaPDQM38
namespace Go.Proofs.Ytmgkeeefbfefgaa
open Go Go.Proofs Go.Eng Go.Run Tab
set_option maxRecDepth 100000
set_option linter.unusedSimpArgs false
set_option linter.unusedVariables false
set_option linter.defProp false
set_option maxHeartbeats 8000000
set_option linter.defProp false
def M43Fs9 := (And.intro (And.intro (And.intro @agg24 @agg3) (And.intro @fo24_0 @inf24)) (And.intro (And.intro @inf3 @sz24) (And.intro @sz3 @Try.underlying25)))
theorem lsN_free {S M : Nat} {ws : List Wn} : MB.free (shN ws) (moN ws) (lsN S M ws) := (lsG_inv (S := S) (M := M) (ws := ws) ws.length).fr
theorem lsN_lt {S M : Nat} {ws : List Wn} : ∀ i ∈ lsN S M ws, i < ws.length := (lsG_inv (S := S) (M := M) (ws := ws) ws.length).lt
theorem wtd_nil {sh mo : Nat → Nat} {n M : Nat} : MB.wtd sh mo n M [] = [] := by
  unfold MB.wtd
  rw [List.filter_eq_nil_iff]
  intro a _
  simp
theorem lsN_hall {S M : Nat} {ws : List Wn} {own : List Nat} (V : Vb S M ws) (hu : own.Pairwise (· < ·)) (hl : ∀ x ∈ own, x < S ∧ 0 < MB.load (shN ws) ws.length x) : (lsN S M ws).length + own.length ≤ (MB.wnt (shN ws) ws.length S).length + (MB.wtd (shN ws) (moN ws) ws.length M own).length :=
  MB.hall lsN_free lsN_lt (fun i hi => (V.s hi).2) (fun i hi => (V.m hi).2) (hu.imp fun h => Nat.ne_of_lt h) hl
theorem lsN_wnt {S M : Nat} {ws : List Wn} (V : Vb S M ws) : (lsN S M ws).length ≤ (MB.wnt (shN ws) ws.length S).length := by
  have := lsN_hall (own := []) V List.Pairwise.nil (fun x hx => by simp at hx)
  rw [wtd_nil] at this
  simpa using this
theorem wnt_le {sh : Nat → Nat} {n S : Nat} : (MB.wnt sh n S).length ≤ S := by
  have := List.length_filter_le (fun s => decide (0 < MB.load sh n s)) (List.range S)
  rw [List.length_range] at this
  exact this
/-- What CheckShort says of rising shops. -/
theorem sho_up {S M : Nat} {ws : List Wn} {own : List Nat} (V : Vb S M ws) (hu : own.Pairwise (· < ·)) (hl : ∀ x ∈ own, x < S) :
    (shoE S M ws (zsN own) = 0 ∧ ∃ k : Nat, shoN S M ws (zsN own) = k ∧ 1 ≤ k ∧ (lsN S M ws).length + k ≤ (MB.wnt (shN ws) ws.length S).length) ∨ shoE S M ws (zsN own) ≠ 0 := by
  by_cases h0 : shoE S M ws (zsN own) = 0
  case neg => exact .inr h0
  left
  refine ⟨h0, own.length - (MB.wtd (shN ws) (moN ws) ws.length M own).length, ?_⟩
  have hn : shoN S M ws (zsN own) = (zsN own).length - (MB.wtd (shN ws) (moN ws) ws.length M own).length := by
    unfold shoN
    rw [if_pos h0, natL_zsN, Int.toNat_natCast]
  rw [hn, zsN_length]
  unfold shoE at h0
  rw [if_neg (by simpa using V.chk), natL_zsN, Int.toNat_natCast, zsN_length] at h0
  split at h0
  · cases h0
  split at h0
  · cases h0
  split at h0
  · cases h0
  rename_i h1 h2 h3
  have := lsN_hall V hu fun x hx => ⟨hl x hx, by
    have : MB.load (shN ws) ws.length x ≠ 0 := fun e => h2 ⟨x, hx, e⟩
    omega⟩
  omega
/-- What CheckShort says of the shops that Short returns. -/
theorem sho_F {S M : Nat} {ws : List Wn} {F : List Nat} (V : Vb S M ws) (P : ShP S M ws F) (hF : F ≠ []) (hne : (lsN S M ws).length ≠ (MB.wnt (shN ws) ws.length S).length) :
    shoE S M ws (zsN F) = 0 ∧ shoN S M ws (zsN F) = (MB.wnt (shN ws) ws.length S).length - (lsN S M ws).length := by
  have h1 := lsN_wnt V
  have h2 := P.n
  have h3 : 0 < F.length := List.length_pos_iff.2 hF
  have e0 : shoE S M ws (zsN F) = 0 := by
    unfold shoE
    rw [if_neg (by simpa using V.chk), if_neg, if_neg, if_neg]
    · rw [natL_zsN, Int.toNat_natCast, zsN_length]; omega
    · rw [natL_zsN]
      rintro ⟨x, hx, e⟩
      have := (P.lt x hx).2
      omega
    · rw [zsN_length, riseB_yes (up_riseP P.up fun x hx => (P.lt x hx).1)]
      simp; omega
  refine ⟨e0, ?_⟩
  unfold shoN
  rw [if_pos e0, natL_zsN, Int.toNat_natCast, zsN_length]
  omega
theorem served9 (S M : Int) (a : Option Addr) (n c : Nat) (ws : List Wn) (x : Int) (h : Eng.Heap) (hr : Row h a (wsV ws)) (hn : n = ws.length) (hx : 0 ≤ x ∧ x ≤ 65535) :
    CallsH Try.prog 9 #[.agg #[.int .i64 S, .int .i64 M, .slice a n c], .int .u16 x] h (fun v h' => v = .bool true ∧ Ext h h') := by
  (refine CallsH_of_exec Try.func9 rfl bod9 ?_; simp only [Try.ntmps9, Try.results9, coreS, stK_some, splice, Value.cells, Value.oneCell', Nat.reduceAdd, Nat.reduceSub, Nat.reduceMul, Nat.reduceLeDiff, Int.reduceEq, Nat.reduceEqDiff, M43Fs9])
  have x0 : Ext h (h.push (.cells #[.int .i64 S, .int .i64 M, .slice a n c] 24)) := (Ext.refl h).push _
  have hb0 := push_new (h := h) (o := .cells #[.int .i64 S, .int .i64 M, .slice a n c] 24)
  generalize h.push (.cells #[.int .i64 S, .int .i64 M, .slice a n c] 24) = hh at x0 hb0 ⊢
  refine CallsH.mono (fine36 S M a n c ws hh (hr.ext x0) hn) ?_
  rintro v h1 ⟨rfl, x1⟩
  have out : ∀ h1, Ext h h1 → CallsH Try.prog 17 #[] h1 (fun v h' => v = .bool true ∧ Ext h h') := fun h1 x => CallsH.mono (works17 h1) fun v h' q => ⟨q.1, x.trans q.2⟩
  have y1 := x0.trans x1
  have hb1 := x1.get hb0
  by_cases hc : chk S M ws = 0
  case neg =>
    simp only [hc, decide_false, Bool.not_false, coreS, Value.cells, Value.oneCell', Nat.reduceAdd, Nat.reduceSub, Nat.reduceMul, Nat.reduceLeDiff, Int.reduceEq, Nat.reduceEqDiff, M43Fs9]
    refine CallsH.mono (out _ y1) ?_
    rintro v h2 ⟨rfl, x2⟩
    simp only [coreS, Value.cells, Value.oneCell', Nat.reduceAdd, Nat.reduceSub, Nat.reduceMul, Nat.reduceLeDiff, Int.reduceEq, Nat.reduceEqDiff, M43Fs9]
    exact x2
  obtain ⟨s, m, rfl, rfl, V⟩ := chk_ok hc
  have hV := V.n
  have v2 := V.s2
  have v4 := V.m2
  have hll := lsN_le V
  have hw := lsN_wnt V
  have hwS := wnt_le (sh := shN ws) (n := ws.length) (S := s)
  simp only [hc, hb1, decide_true, Bool.not_true, coreS, Value.cells, Value.oneCell', Nat.reduceAdd, Nat.reduceSub, Nat.reduceMul, Nat.reduceLeDiff, Int.reduceEq, Nat.reduceEqDiff, M43Fs9]
  refine CallsH.mono (best41 s m a n c ws h1 (hr.ext y1) hn V) ?_
  rintro v h2 ⟨⟨a2, c2, rfl, O2⟩, x2⟩
  have y2 := y1.trans x2
  have hb2 := x2.get hb1
  simp only [hb2, coreS, Value.cells, Value.oneCell', Nat.reduceAdd, Nat.reduceSub, Nat.reduceMul, Nat.reduceLeDiff, Int.reduceEq, Nat.reduceEqDiff, M43Fs9]
  refine CallsH.mono (short34 s m a n c ws h2 (hr.ext y2) hn (by omega)) ?_
  rintro v h3 ⟨⟨s', m', es, em, _, F, P, hFe, hF⟩ | ⟨hne, _⟩, x3⟩
  case inr => exact absurd V.chk hne
  obtain rfl : s = s' := by omega
  obtain rfl : m = m' := by omega
  have y3 := y2.trans x3
  have hb3 := x3.get hb2
  obtain ⟨aF, cF, eF, rfl, IF, hFF⟩ : ∃ aF cF, ∃ eF : Int, v = .tuple #[.slice aF F.length cF, .int .i64 eF] ∧ IntsV h3 aF F.length (zsN F) ∧ ((F = [] ∧ eF = 5) ∨ (F ≠ [] ∧ eF = 0)) := by
    rcases hF with ⟨h0, rfl⟩ | ⟨h0, aF, cF, rfl, I⟩
    · exact ⟨none, 0, 5, by rw [h0]; rfl, by rw [h0]; exact IntsV.nil _, .inl ⟨h0, rfl⟩⟩
    · exact ⟨aF, cF, 0, rfl, I, .inr ⟨h0, rfl⟩⟩
  clear hF
  have hFl := up_len P.up fun t ht => (P.lt t ht).1
  simp only [hb3, coreS, Value.cells, Value.oneCell', Nat.reduceAdd, Nat.reduceSub, Nat.reduceMul, Nat.reduceLeDiff, Int.reduceEq, Nat.reduceEqDiff, M43Fs9]
  refine CallsH.mono (bits42 s x h3 (by omega) hx) ?_
  rintro v h4 ⟨⟨aB, cB, lB, rfl, OB, upB, ltB⟩, x4⟩
  have lBl := up_len upB ltB
  have hb4 := x4.get hb3
  have y4 := y3.trans x4
  simp only [hb4, coreS, Value.cells, Value.oneCell', Nat.reduceAdd, Nat.reduceSub, Nat.reduceMul, Nat.reduceLeDiff, Int.reduceEq, Nat.reduceEqDiff, M43Fs9]
  refine CallsH.mono (checkShort32 s m a n c ws aB _ cB (zsN lB) h4 (hr.ext y4) hn (by omega) OB.ints (by omega)) ?_
  rintro v h5 ⟨rfl, x5⟩
  have hb5 := x5.get hb4
  have y5 := y4.trans x5
  simp only [hb5, coreS, Value.cells, Value.oneCell', Nat.reduceAdd, Nat.reduceSub, Nat.reduceMul, Nat.reduceLeDiff, Int.reduceEq, Nat.reduceEqDiff, M43Fs9]
  refine CallsH.mono (wanting43 s m a n c ws h5 (hr.ext y5) hn V) ?_
  rintro v h6 ⟨rfl, x6⟩
  have hb6 := x6.get hb5
  have y6 := y5.trans x6
  have IF6 := (((IF.ext x4).ext x5).ext x6)
  by_cases hlen : (((lsN s m ws).length : Nat) : Int) = ((MB.wnt (shN ws) ws.length s).length : Nat)
  · have hF0 : F = [] := hFe.1 (by omega)
    obtain rfl : eF = 5 := by
      rcases hFF with ⟨_, h⟩ | ⟨h, _⟩
      · exact h
      · exact absurd hF0 h
    have hF1 : ((F.length : Nat) : Int) = 0 := by rw [hF0]; rfl
    rcases sho_up V upB ltB with ⟨l0, k, l1, l2, l3⟩ | l0
    · exact absurd l3 (by omega)
    · simp only [l0, hlen, hF1, decide_true, decide_false, Bool.not_true, Bool.not_false, coreS, Value.cells, Value.oneCell', Nat.reduceAdd, Nat.reduceSub, Nat.reduceMul, Nat.reduceLeDiff, Int.reduceEq, Nat.reduceEqDiff, M43Fs9]
      refine CallsH.mono (out _ y6) ?_
      rintro v h9 ⟨rfl, x9⟩
      simp only [coreS, Value.cells, Value.oneCell', Nat.reduceAdd, Nat.reduceSub, Nat.reduceMul, Nat.reduceLeDiff, Int.reduceEq, Nat.reduceEqDiff, M43Fs9]
      exact x9
  · have hF0 : F ≠ [] := fun e => hlen (by have := hFe.2 e; omega)
    obtain rfl : eF = 0 := by
      rcases hFF with ⟨h, _⟩ | ⟨_, h⟩
      · exact absurd h hF0
      · exact h
    obtain ⟨e1, e2⟩ := sho_F V P hF0 (by omega)
    rcases sho_up V upB ltB with ⟨l0, k, l1, l2, l3⟩ | l0
    · have t1 : ¬ ((k : Nat) : Int) < 1 := by omega
      simp only [l0, l1, t1, hlen, hb6, decide_true, decide_false, Bool.not_true, Bool.not_false, coreS, Value.cells, Value.oneCell', Nat.reduceAdd, Nat.reduceSub, Nat.reduceMul, Nat.reduceLeDiff, Int.reduceEq, Nat.reduceEqDiff, M43Fs9]
      refine CallsH.mono (checkShort32 s m a n c ws aF _ cF (zsN F) h6 (hr.ext y6) hn (by omega) IF6 (by omega)) ?_
      rintro v h7 ⟨rfl, x7⟩
      have hb7 := x7.get hb6
      rw [e1, e2]
      simp only [hb7, coreS, Value.cells, Value.oneCell', Nat.reduceAdd, Nat.reduceSub, Nat.reduceMul, Nat.reduceLeDiff, Int.reduceEq, Nat.reduceEqDiff, M43Fs9]
      refine CallsH.mono (checkShort33 s m a n c ws aF _ cF (zsN F) h7 (hr.ext (y6.trans x7)) hn (by omega) (IF6.ext x7) (by omega)) ?_
      rintro v h8 ⟨rfl, x8⟩
      rw [e1, e2]
      have t2 : (((lsN s m ws).length : Nat) : Int) ≤ ((MB.wnt (shN ws) ws.length s).length : Nat) - (((MB.wnt (shN ws) ws.length s).length : Nat) - ((lsN s m ws).length : Nat)) := by omega
      have t3 : (((lsN s m ws).length : Nat) : Int) ≤ ((MB.wnt (shN ws) ws.length s).length : Nat) - (k : Int) := by omega
      simp only [t2, t3, l0, decide_true, decide_false, Bool.not_true, Bool.not_false, coreS, Value.cells, Value.oneCell', Nat.reduceAdd, Nat.reduceSub, Nat.reduceMul, Nat.reduceLeDiff, Int.reduceEq, Nat.reduceEqDiff, M43Fs9]
      refine ⟨by rw [inK_i64]; omega, by rw [inK_i64]; omega, ?_⟩
      refine CallsH.mono (out _ ((y6.trans x7).trans x8)) ?_
      rintro v h9 ⟨rfl, x9⟩
      simp only [coreS, Value.cells, Value.oneCell', Nat.reduceAdd, Nat.reduceSub, Nat.reduceMul, Nat.reduceLeDiff, Int.reduceEq, Nat.reduceEqDiff, M43Fs9]
      exact x9
    · simp only [l0, hlen, hb6, decide_true, decide_false, Bool.not_true, Bool.not_false, coreS, Value.cells, Value.oneCell', Nat.reduceAdd, Nat.reduceSub, Nat.reduceMul, Nat.reduceLeDiff, Int.reduceEq, Nat.reduceEqDiff, M43Fs9]
      refine CallsH.mono (checkShort32 s m a n c ws aF _ cF (zsN F) h6 (hr.ext y6) hn (by omega) IF6 (by omega)) ?_
      rintro v h7 ⟨rfl, x7⟩
      have hb7 := x7.get hb6
      rw [e1, e2]
      simp only [hb7, coreS, Value.cells, Value.oneCell', Nat.reduceAdd, Nat.reduceSub, Nat.reduceMul, Nat.reduceLeDiff, Int.reduceEq, Nat.reduceEqDiff, M43Fs9]
      refine CallsH.mono (checkShort33 s m a n c ws aF _ cF (zsN F) h7 (hr.ext (y6.trans x7)) hn (by omega) (IF6.ext x7) (by omega)) ?_
      rintro v h8 ⟨rfl, x8⟩
      rw [e1, e2]
      have t2 : (((lsN s m ws).length : Nat) : Int) ≤ ((MB.wnt (shN ws) ws.length s).length : Nat) - (((MB.wnt (shN ws) ws.length s).length : Nat) - ((lsN s m ws).length : Nat)) := by omega
      simp only [t2, l0, decide_true, decide_false, Bool.not_true, Bool.not_false, coreS, Value.cells, Value.oneCell', Nat.reduceAdd, Nat.reduceSub, Nat.reduceMul, Nat.reduceLeDiff, Int.reduceEq, Nat.reduceEqDiff, M43Fs9]
      refine ⟨by rw [inK_i64]; omega, ?_⟩
      refine CallsH.mono (out _ ((y6.trans x7).trans x8)) ?_
      rintro v h9 ⟨rfl, x9⟩
      simp only [coreS, Value.cells, Value.oneCell', Nat.reduceAdd, Nat.reduceSub, Nat.reduceMul, Nat.reduceLeDiff, Int.reduceEq, Nat.reduceEqDiff, M43Fs9]
      exact x9
end Go.Proofs.Ytmgkeeefbfefgaa
