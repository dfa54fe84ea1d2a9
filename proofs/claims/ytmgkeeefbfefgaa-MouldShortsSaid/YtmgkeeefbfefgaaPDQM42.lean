/- Walks: CheckShort of the document. -/
import Derived.Test.YtmgkeeefbfefgaaPDQM41
namespace Go.Proofs.Ytmgkeeefbfefgaa
open Go Go.Proofs Go.Eng Go.Run Tab
set_option maxRecDepth 100000
set_option linter.unusedSimpArgs false
set_option linter.unusedVariables false
set_option linter.defProp false
set_option maxHeartbeats 2000000
set_option linter.defProp false
def M42Fs33 := (And.intro (And.intro (And.intro @agg24 @agg3) (And.intro @by3 @fo24_0)) (And.intro (And.intro @inf24 @inf3) (And.intro @sz24 (And.intro @sz3 @Try.underlying25))))
theorem zsN_getD {l : List Nat} {i : Nat} : (zsN l).getD i 0 = ((l.getD i 0 : Nat) : Int) := by
  simp only [zsN, List.getD_eq_getElem?_getD, List.getElem?_map]
  cases l[i]? <;> rfl
theorem checkShort33 (S M : Int) (a : Option Addr) (n c : Nat) (ws : List Wn) (b : Option Addr) (k d : Nat) (xs : List Int) (h : Eng.Heap) (hr : Row h a (wsV ws)) (hn : n = ws.length) (hl : n ≤ 1000000) (hx : IntsV h b k xs) (hk : k ≤ 1000000) :
    CallsH Try.prog 33 #[.agg #[.int .i64 S, .int .i64 M, .slice a n c], .slice b k d] h (fun v h' => v = .tuple #[.int .i64 (shoN S M ws xs), .int .i64 (shoE S M ws xs)] ∧ Ext h h') := by
  have hkl := hx.len
  (refine CallsH_of_exec Try.func33 rfl bod33 ?_; simp only [Try.ntmps33, Try.results33, coreS, stK_some, splice, Value.cells, Value.oneCell', Nat.reduceAdd, Nat.reduceSub, Nat.reduceMul, Nat.reduceLeDiff, Int.reduceEq, Nat.reduceEqDiff, M42Fs33])
  have x0 : Ext h (h.push (.cells #[.int .i64 S, .int .i64 M, .slice a n c] 24)) := (Ext.refl h).push _
  have q0 := push_new (h := h) (o := .cells #[.int .i64 S, .int .i64 M, .slice a n c] 24)
  generalize h.push (.cells #[.int .i64 S, .int .i64 M, .slice a n c] 24) = hh at x0 q0 ⊢
  have fin : ∀ {e k : Int} {Q : Prop}, shoE S M ws xs = e → shoN S M ws xs = k → Q → Value.tuple #[.int .i64 k, .int .i64 e] = Value.tuple #[.int .i64 (shoN S M ws xs), .int .i64 (shoE S M ws xs)] ∧ Q := fun h1 h2 q => ⟨by rw [h1, h2], q⟩
  have fin0 : ∀ {e : Int} {Q : Prop}, shoE S M ws xs = e → e ≠ 0 → Q → Value.tuple #[.int .i64 0, .int .i64 e] = Value.tuple #[.int .i64 (shoN S M ws xs), .int .i64 (shoE S M ws xs)] ∧ Q := fun h1 h2 q => fin h1 (by unfold shoN; rw [if_neg (by rw [h1]; exact h2)]) q
  refine CallsH.mono (check23 S M a n c ws hh (hr.ext x0) hn hl) ?_
  rintro v h1 ⟨rfl, x1⟩
  have y1 := x0.trans x1
  have k0 := x1.get q0
  by_cases hc : chk S M ws = 0
  case neg =>
    simp only [hc, k0, decide_false, Bool.not_false, coreS, Value.cells, Value.oneCell', Nat.reduceAdd, Nat.reduceSub, Nat.reduceMul, Nat.reduceLeDiff, Int.reduceEq, Nat.reduceEqDiff, M42Fs33]
    refine CallsH.mono (check23 S M a n c ws h1 (hr.ext y1) hn hl) ?_
    rintro v h2 ⟨rfl, x2⟩
    simp only [coreS, Value.cells, Value.oneCell', Nat.reduceAdd, Nat.reduceSub, Nat.reduceMul, Nat.reduceLeDiff, Int.reduceEq, Nat.reduceEqDiff, M42Fs33]
    exact fin0 (by unfold shoE; rw [if_pos hc]) hc (y1.trans x2)
  obtain ⟨s, m, rfl, rfl, V⟩ := chk_ok hc
  have hc0 := V.chk
  have hV := V.n
  have v2 := V.s2
  by_cases hk0 : (k : Int) = 0
  · simp only [hc, hk0, decide_true, Bool.not_true, coreS, Value.cells, Value.oneCell', Nat.reduceAdd, Nat.reduceSub, Nat.reduceMul, Nat.reduceLeDiff, Int.reduceEq, Nat.reduceEqDiff, M42Fs33]
    exact fin0 (by unfold shoE; rw [if_neg (by simpa using hc0), if_pos (.inl (by omega))]) (by decide) y1
  simp only [hc, k0, hk0, decide_true, decide_false, Bool.not_true, coreS, Value.cells, Value.oneCell', Nat.reduceAdd, Nat.reduceSub, Nat.reduceMul, Nat.reduceLeDiff, Int.reduceEq, Nat.reduceEqDiff, M42Fs33]
  refine CallsH.mono (isList70 b k d xs s h1 (hx.ext y1) hk) ?_
  rintro v h2 ⟨rfl, rfl⟩
  cases hris : riseB s xs with
  | false =>
    simp only [Bool.not_false, coreS, Value.cells, Value.oneCell', Nat.reduceAdd, Nat.reduceSub, Nat.reduceMul, Nat.reduceLeDiff, Int.reduceEq, Nat.reduceEqDiff, M42Fs33]
    exact fin0 (by unfold shoE; rw [if_neg (by simpa using hc0), if_pos (.inr hris)]) (by decide) y1
  | true =>
  obtain ⟨own, rfl, hos⟩ := rise_mem hris
  have hno : ¬ ((zsN own).length = 0 ∨ riseB s (zsN own) = false) := fun hh => hh.elim (fun e => hk0 (by omega)) (fun e => by rw [hris] at e; cases e)
  have hnN : natL (zsN own) = own := natL_zsN own
  have hol : own.length = k := by rw [zsN_length] at hkl; omega
  simp only [k0, Bool.not_true, coreS, Value.cells, Value.oneCell', Nat.reduceAdd, Nat.reduceSub, Nat.reduceMul, Nat.reduceLeDiff, Int.reduceEq, Nat.reduceEqDiff, M42Fs33]
  refine CallsH.mono (loadsOf51 s m a n c ws h2 (hr.ext y1) hn V) ?_
  rintro v h3 ⟨⟨p, q, rfl, _, _, _, hp, hq⟩, x3⟩
  have y3 := y1.trans x3
  have i3 : IntsV h3 (some ⟨p, 0, none⟩) s (ldL (shN ws) s n) := by
    have := IntsV.block (xs := ldL (shN ws) s n) hp
    rwa [ldL_length] at this
  have hx3 := hx.ext y3
  simp only [coreS, Value.cells, Value.oneCell', Nat.reduceAdd, Nat.reduceSub, Nat.reduceMul, Nat.reduceLeDiff, Int.reduceEq, Nat.reduceEqDiff, M42Fs33]
  refine WP_loopI [4, 5, 8, 30, 31, 32, 33, 34, 35, 36, 37, 38, 39, 40, 41, 42, 43] (fun e h' => h' = h3 ∧ ∃ i : Nat, i ≤ k ∧ e 8 = .int .i64 i ∧ ∀ x ∈ own.take i, MB.load (shN ws) ws.length x ≠ 0) (fun e _ => match e 8 with | .int _ q => k - q.toNat | _ => 0) ⟨rfl, 0, by omega, rfl, fun x hx => by simp at hx⟩ ?_
  rintro e h4 ⟨rfl, i, hi, he, hall⟩
  by_cases hik : i < k
  · have hlt : (i : Int) < (k : Int) := by omega
    have meas : k - ((i : Int) + 1).toNat < k - (i : Int).toNat := by omega
    have c1 := hx3.cell (j := i) (by omega)
    have sb := hx3.isSome (by omega)
    obtain ⟨y, hy⟩ : ∃ y, y = own.getD i 0 := ⟨_, rfl⟩
    have hyi : (zsN own).getD i 0 = (y : Int) := by rw [hy, zsN_getD]
    have hym : y ∈ own := by rw [hy]; exact MB.mem_getD (by omega)
    have hys := hos y hym
    rw [hyi] at c1
    have c2 := i3.cell (j := y) (by rw [ldL_length]; exact hys)
    rw [ldL_get hys, eltP_some, cellH_eq, Nat.zero_add] at c2
    have tk : own.take (i + 1) = own.take i ++ [y] := by rw [MB.take_snoc (by omega), hy]
    by_cases h0 : ((MB.load (shN ws) n y : Nat) : Int) = 0
    · simp only [he, hlt, c1, c2, h0, decide_true, Int.toNat_natCast, coreS, Value.cells, Value.oneCell', Nat.reduceAdd, Nat.reduceSub, Nat.reduceMul, Nat.reduceLeDiff, Int.reduceEq, Nat.reduceEqDiff, M42Fs33]
      refine ⟨by omega, sb, by omega, rfl, ?_⟩
      refine fin0 ?_ (by decide) y3
      unfold shoE
      rw [if_neg (by simpa using hc0), if_neg hno, if_pos ⟨y, by rw [hnN]; exact hym, by rw [← hn]; omega⟩]
    · simp only [he, hlt, c1, c2, h0, decide_true, decide_false, Int.toNat_natCast, coreS, Value.cells, Value.oneCell', Nat.reduceAdd, Nat.reduceSub, Nat.reduceMul, Nat.reduceLeDiff, Int.reduceEq, Nat.reduceEqDiff, M42Fs33]
      refine ⟨by omega, sb, by omega, rfl, by rw [inK_i64]; omega, roundK_mk (by kernel_rfl) ⟨rfl, i + 1, by omega, rfl, fun x hx => ?_⟩ meas⟩
      rw [tk, List.mem_append, List.mem_singleton] at hx
      rcases hx with hx | rfl
      · exact hall x hx
      · rw [← hn]; omega
  obtain rfl : i = k := by omega
  have hnl : ¬ ∃ x ∈ natL (zsN own), MB.load (shN ws) ws.length x = 0 := by
    rintro ⟨x, hx, h0⟩
    rw [hnN] at hx
    exact hall x (by rw [← hol, List.take_length]; exact hx) h0
  have k4 := x3.get k0
  simp only [he, k4, show ¬ ((i : Int) < (i : Int)) by omega, decide_false, coreS, Value.cells, Value.oneCell', Nat.reduceAdd, Nat.reduceSub, Nat.reduceMul, Nat.reduceLeDiff, Int.reduceEq, Nat.reduceEqDiff, M42Fs33]
  refine CallsH.mono (wanted77 s m a n c ws b i d own h4 (hr.ext y3) hn V hx3 hk) ?_
  rintro v h5 ⟨⟨a', c', rfl⟩, x5⟩
  have y5 := y3.trans x5
  have hwl : (MB.wtd (shN ws) (moN ws) ws.length m own).length ≤ m := by
    have := List.length_filter_le (fun m => (List.range ws.length).any fun i => moN ws i == m && own.contains (shN ws i)) (List.range m)
    rw [List.length_range] at this
    exact this
  have v4 := V.m2
  by_cases hle : (i : Int) - ((MB.wtd (shN ws) (moN ws) ws.length m own).length : Nat) ≤ 0
  · simp only [hle, decide_true, coreS, Value.cells, Value.oneCell', Nat.reduceAdd, Nat.reduceSub, Nat.reduceMul, Nat.reduceLeDiff, Int.reduceEq, Nat.reduceEqDiff, M42Fs33]
    refine ⟨by rw [inK_i64]; omega, ?_⟩
    refine fin0 ?_ (by decide) y5
    unfold shoE
    rw [if_neg (by simpa using hc0), if_neg hno, if_neg hnl, if_pos]
    rw [hnN, Int.toNat_natCast]; omega
  · simp only [hle, decide_false, coreS, Value.cells, Value.oneCell', Nat.reduceAdd, Nat.reduceSub, Nat.reduceMul, Nat.reduceLeDiff, Int.reduceEq, Nat.reduceEqDiff, M42Fs33]
    have e0 : shoE s m ws (zsN own) = 0 := by
      unfold shoE
      rw [if_neg (by simpa using hc0), if_neg hno, if_neg hnl, if_neg]
      rw [hnN, Int.toNat_natCast]; omega
    refine ⟨by rw [inK_i64]; omega, ?_⟩
    refine fin e0 ?_ y5
    unfold shoN
    rw [if_pos e0, hnN, Int.toNat_natCast]; omega
end Go.Proofs.Ytmgkeeefbfefgaa
