/- Walks: Clash, IsRight, Different and CheckDays of the reference. -/
import Derived.Test.YtmgkeeefbfefgaaM10
namespace Go.Proofs.Ytmgkeeefbfefgaa
open Go Go.Proofs Go.Eng Go.Run Tab
set_option maxRecDepth 100000
set_option linter.unusedSimpArgs false
set_option linter.unusedVariables false
set_option linter.defProp false
set_option maxHeartbeats 1000000
set_option linter.defProp false
def M11Fs21 := (And.intro (And.intro (And.intro @agg22 (And.intro @agg24 @agg3)) (And.intro @by3 (And.intro @fo24_2 @inf22))) (And.intro (And.intro @inf24 (And.intro @inf3 @sz22)) (And.intro (And.intro @sz24 @sz3) (And.intro @Try.underlying22 @Try.underlying25))))
def M11Fs57 := (And.intro (And.intro (And.intro @agg24 @agg3) (And.intro @by3 @inf24)) (And.intro (And.intro @inf3 @sz24) (And.intro @sz3 @Try.underlying25)))
def M11Fs58 := (And.intro (And.intro @agg3 @by3) (And.intro @inf3 (And.intro @sz3 @Try.underlying25)))
def M11Fs79 := (And.intro (And.intro (And.intro @agg22 (And.intro @agg3 @by58)) (And.intro @fo24_2 (And.intro @fo58_0 @fo58_1))) (And.intro (And.intro @inf22 (And.intro @inf3 @inf58)) (And.intro (And.intro @sz22 @sz3) (And.intro @sz58 @Try.underlying22))))
theorem clash79 (S M : Nat) (a : Option Addr) (n c : Nat) (ws : List Wn) (i k : Nat) (h : Eng.Heap) (hr : Row h a (wsV ws)) (hn : n = ws.length) (V : Vb S M ws) (hi : i < ws.length) (hk : k < ws.length) :
    CallsH Try.prog 79 #[.agg #[.int .i64 S, .int .i64 M, .slice a n c], .int .i64 i, .int .i64 k] h (fun v h' => v = .bool (MB.clash (shN ws) (moN ws) i k) ∧ Ext h h') := by
  (refine CallsH_of_exec Try.func79 rfl bod79 ?_; simp only [Try.ntmps79, Try.results79, coreS, stK_some, splice, Value.cells, Value.oneCell', Nat.reduceAdd, Nat.reduceSub, Nat.reduceMul, Nat.reduceLeDiff, Int.reduceEq, Nat.reduceEqDiff, M11Fs79])
  have x0 : Ext h (h.push (.cells #[.int .i64 S, .int .i64 M, .slice a n c] 24)) := (Ext.refl h).push _
  have hr0 := hr.push (.cells #[.int .i64 S, .int .i64 M, .slice a n c] 24)
  have fa := faR hr hi
  have a0 := cellW0 hr0 hi
  have a1 := cellW1 hr0 hi
  have b0 := cellW0 hr0 hk
  have b1 := cellW1 hr0 hk
  rw [(V.s hi).1] at a0
  rw [(V.m hi).1] at a1
  rw [(V.s hk).1] at b0
  rw [(V.m hk).1] at b1
  have hsm := rowW_some hr hi
  have hcl : MB.clash (shN ws) (moN ws) i k = (decide (((shN ws i : Nat) : Int) = (shN ws k : Nat)) || decide (((moN ws i : Nat) : Int) = (moN ws k : Nat))) := by
    unfold MB.clash
    congr 1
    · rw [Bool.eq_iff_iff]; simp; omega
    · rw [Bool.eq_iff_iff]; simp; omega
  rw [hcl]
  refine WP_draw (by kernel_rfl) sta_eq [(0, 0), (1, 0), (2, 0), (3, 0), (4, 0), (5, 0), (6, 0), (7, 0), (8, 0), (9, 0), (10, 0), (11, 0), (12, 0), (13, 0), (14, 0), (15, 0), (16, 0), (17, 0), (18, 0), (19, 0), (20, 0), (21, 0), (22, 0), (23, 0), (24, 0), (25, 0), (26, 0), (27, 0), (28, 0)] (by kernel_rfl) rfl (by kernel_rfl) ?_
  by_cases h1 : ((shN ws i : Nat) : Int) = (shN ws k : Nat)
  · simp only [fa, a0, a1, b0, b1, h1, decide_true, hvK_eq, Int.toNat_natCast, coreS, Value.cells, Value.oneCell', Nat.reduceAdd, Nat.reduceSub, Nat.reduceMul, Nat.reduceLeDiff, Int.reduceEq, Nat.reduceEqDiff, drawS, M11Fs79]
    refine ⟨⟨by omega, by omega⟩, hsm, ⟨by omega, by omega⟩, hsm, ?_⟩
    exact ⟨by simp, x0⟩
  · simp only [fa, a0, a1, b0, b1, h1, decide_false, hvK_eq, Int.toNat_natCast, coreS, Value.cells, Value.oneCell', Nat.reduceAdd, Nat.reduceSub, Nat.reduceMul, Nat.reduceLeDiff, Int.reduceEq, Nat.reduceEqDiff, drawS, M11Fs79]
    refine ⟨⟨by omega, by omega⟩, hsm, ⟨by omega, by omega⟩, hsm, ⟨by omega, by omega⟩, hsm, ⟨by omega, by omega⟩, hsm, ?_⟩
    exact ⟨by simp, x0⟩
theorem cQ_same {P : Program} {f : FuncId} {args : Array Value} {h : Eng.Heap} {K : Value → Eng.Heap → Prop} (r : Value) (c : CallsH P f args h (fun v' h'' => v' = r ∧ h'' = h)) (H : K r h) : cQ P EqH f args h K := by
  unfold cQ
  refine ⟨r, fun h' e => ?_, H⟩
  have e : h' = h := e
  subst e
  exact c
theorem isRight57 (S M : Nat) (a : Option Addr) (n c : Nat) (ws : List Wn) (b : Option Addr) (m k : Nat) (days : List Int) (h : Eng.Heap) (hr : Row h a (wsV ws)) (hn : n = ws.length) (V : Vb S M ws) (hd : IntsV h b m days) (hmn : m = n) (h0 : ∀ x ∈ days, 0 ≤ x) :
    CallsH Try.prog 57 #[.agg #[.int .i64 S, .int .i64 M, .slice a n c], .slice b m k] h (fun v h' => (∃ r : Bool, v = .bool r ∧ (r = true ↔ rightD ws days)) ∧ Ext h h') := by
  have hml := hd.len
  have V3 := V.n
  obtain ⟨C, hC⟩ : ∃ C : Nat → Nat, C = fun i => (natL days).getD i 0 := ⟨_, rfl⟩
  have hCd : ∀ i, i < m → days.getD i 0 = (C i : Nat) := fun i hi => by
    have e1 : C i = (natL days).getD i 0 := by rw [hC]
    rw [e1, natL_get]
    have hm : days.getD i 0 ∈ days := by
      have : i < days.length := by omega
      simp [List.getD, List.getElem?_eq_getElem this]
    have := h0 _ hm
    omega
  have hRD : rightD ws days ↔ MB.right (shN ws) (moN ws) C m := by
    unfold rightD MB.rightL
    rw [natL_length, ← hC, hml]
  (refine CallsH_of_exec Try.func57 rfl bod57 ?_; simp only [Try.ntmps57, Try.results57, coreS, stK_some, splice, Value.cells, Value.oneCell', Nat.reduceAdd, Nat.reduceSub, Nat.reduceMul, Nat.reduceLeDiff, Int.reduceEq, Nat.reduceEqDiff, M11Fs57])
  have x0 : Ext h (h.push (.cells #[.int .i64 S, .int .i64 M, .slice a n c] 24)) := (Ext.refl h).push _
  have hb0 := push_new (h := h) (o := .cells #[.int .i64 S, .int .i64 M, .slice a n c] 24)
  generalize h.push (.cells #[.int .i64 S, .int .i64 M, .slice a n c] 24) = hh at x0 hb0 ⊢
  refine WP_loopI [4, 5, 6, 7, 8, 9, 10, 11, 12, 13, 14, 15, 16, 17, 18, 19, 20, 21, 22, 23, 24, 25, 26, 27, 28, 29, 30, 31, 32] (fun e h' => Ext hh h' ∧ ∃ i : Nat, i ≤ m ∧ e 5 = .int .i64 i ∧ MB.right (shN ws) (moN ws) C i) (fun e _ => match e 5 with | .int _ q => m - q.toNat | _ => 0) ⟨Ext.refl _, 0, by omega, rfl, fun a b ha => by omega⟩ ?_
  rintro e h1 ⟨x1, i, hi, he, hR⟩
  by_cases hil : i < days.length
  · have hlt : (i : Int) < (m : Int) := by omega
    simp only [he, hlt, decide_true, coreS, Value.cells, Value.oneCell', Nat.reduceAdd, Nat.reduceSub, Nat.reduceMul, Nat.reduceLeDiff, Int.reduceEq, Nat.reduceEqDiff, M11Fs57]
    refine WP_loopI [4, 6, 13, 14, 15, 16, 17, 18, 19, 20, 21, 22, 23, 24, 25, 26, 27, 28, 29, 30, 31, 32] (fun e h' => Ext hh h' ∧ ∃ q : Nat, q ≤ i ∧ e 6 = .int .i64 q ∧ ∀ t, t < q → C t = C i → shN ws t ≠ shN ws i ∧ moN ws t ≠ moN ws i) (fun e _ => match e 6 with | .int _ q => i - q.toNat | _ => 0) ⟨x1, 0, by omega, rfl, fun t ht => by omega⟩ ?_
    rintro e2 h2 ⟨x2, q, hq, he2, hno⟩
    have hb2 := x2.get hb0
    have y2 := x0.trans x2
    by_cases hqi : q < i
    · have hlt2 : (q : Int) < (i : Int) := by omega
      have hd2 := hd.ext y2
      have c1 := hd2.cell hil
      have c2 := hd2.cell (j := q) (by omega)
      rw [hCd i (by omega)] at c1
      rw [hCd q (by omega)] at c2
      simp only [he2, hlt2, decide_true, coreS, Value.cells, Value.oneCell', Nat.reduceAdd, Nat.reduceSub, Nat.reduceMul, Nat.reduceLeDiff, Int.reduceEq, Nat.reduceEqDiff, M11Fs57]
      refine WP_draw (by kernel_rfl) sta_ext [(0, 0), (1, 0), (2, 0), (3, 0), (4, 0), (5, 0), (6, 0), (7, 0), (8, 0), (9, 0), (10, 0), (11, 0), (12, 0), (13, 0), (14, 0)] (by kernel_rfl) rfl (by kernel_rfl) ?_
      have hds : b.isSome = true := hd.isSome (by omega)
      have go_on : (C q = C i → shN ws q ≠ shN ws i ∧ moN ws q ≠ moN ws i) → ∀ t, t < q + 1 → C t = C i → shN ws t ≠ shN ws i ∧ moN ws t ≠ moN ws i := fun hh t ht et => by
        by_cases h : t = q
        · subst h; exact hh et
        · exact hno t (by omega) et
      by_cases hcc : ((C i : Nat) : Int) = (C q : Nat)
      · simp only [he, he2, hb2, c1, c2, hcc, decide_true, Int.toNat_natCast, coreS, Value.cells, Value.oneCell', Nat.reduceAdd, Nat.reduceSub, Nat.reduceMul, Nat.reduceLeDiff, Int.reduceEq, Nat.reduceEqDiff, drawS, M11Fs57]
        refine ⟨⟨by omega, by omega⟩, hds, ⟨by omega, by omega⟩, hds, ?_⟩
        refine cQ_ext _ (fun h3 x3 => clash79 S M a n c ws i q h3 (hr.ext (y2.trans x3)) hn V (by omega) (by omega)) ?_
        cases hcl : MB.clash (shN ws) (moN ws) i q with
        | true =>
          simp only [coreS, Value.cells, Value.oneCell', Nat.reduceAdd, Nat.reduceSub, Nat.reduceMul, Nat.reduceLeDiff, Int.reduceEq, Nat.reduceEqDiff, drawS, M11Fs57]
          refine hvK_mk fun h3 x3 => ?_
          simp only [coreS, Value.cells, Value.oneCell', Nat.reduceAdd, Nat.reduceSub, Nat.reduceMul, Nat.reduceLeDiff, Int.reduceEq, Nat.reduceEqDiff, M11Fs57]
          refine ⟨⟨false, rfl, Iff.intro (fun hf => absurd hf (by simp)) (fun hr1 => ?_)⟩, y2.trans x3⟩
          have h5 := (hRD.1 hr1) i q (by omega) (by omega) (by omega) (by omega)
          have := MB.clash_no.2 h5
          rw [hcl] at this; cases this
        | false =>
          simp only [coreS, Value.cells, Value.oneCell', Nat.reduceAdd, Nat.reduceSub, Nat.reduceMul, Nat.reduceLeDiff, Int.reduceEq, Nat.reduceEqDiff, drawS, M11Fs57]
          refine hvK_mk fun h3 x3 => ?_
          simp only [he2, coreS, Value.cells, Value.oneCell', Nat.reduceAdd, Nat.reduceSub, Nat.reduceMul, Nat.reduceLeDiff, Int.reduceEq, Nat.reduceEqDiff, M11Fs57]
          have h5 := MB.clash_no.1 hcl
          refine ⟨by rw [inK_i64]; omega, roundK_mk (by kernel_rfl) ⟨x2.trans x3, q + 1, by omega, rfl, go_on fun _ => ⟨fun e => h5.1 e.symm, fun e => h5.2 e.symm⟩⟩ ?_⟩
          show i - ((q : Int) + 1).toNat < i - (q : Int).toNat
          omega
      · simp only [he, he2, hb2, c1, c2, hcc, decide_false, Int.toNat_natCast, coreS, Value.cells, Value.oneCell', Nat.reduceAdd, Nat.reduceSub, Nat.reduceMul, Nat.reduceLeDiff, Int.reduceEq, Nat.reduceEqDiff, drawS, M11Fs57]
        refine ⟨⟨by omega, by omega⟩, hds, ⟨by omega, by omega⟩, hds, ?_⟩
        refine hvK_mk fun h3 x3 => ?_
        simp only [he2, coreS, Value.cells, Value.oneCell', Nat.reduceAdd, Nat.reduceSub, Nat.reduceMul, Nat.reduceLeDiff, Int.reduceEq, Nat.reduceEqDiff, M11Fs57]
        refine ⟨by rw [inK_i64]; omega, roundK_mk (by kernel_rfl) ⟨x2.trans x3, q + 1, by omega, rfl, go_on fun h => absurd (by rw [h]) hcc⟩ ?_⟩
        show i - ((q : Int) + 1).toNat < i - (q : Int).toNat
        omega
    · obtain rfl : q = i := by omega
      have hlt2 : ¬ ((q : Int) < (q : Int)) := by omega
      simp only [he, he2, hlt2, decide_false, coreS, Value.cells, Value.oneCell', Nat.reduceAdd, Nat.reduceSub, Nat.reduceMul, Nat.reduceLeDiff, Int.reduceEq, Nat.reduceEqDiff, M11Fs57]
      refine ⟨by rw [inK_i64]; omega, roundK_mk (by kernel_rfl) ⟨x2, q + 1, by omega, rfl, right_step.2 ⟨hR, hno⟩⟩ ?_⟩
      show m - ((q : Int) + 1).toNat < m - (q : Int).toNat
      omega
  · obtain rfl : i = m := by omega
    have hlt : ¬ ((i : Int) < (i : Int)) := by omega
    simp only [he, hlt, decide_false, coreS, Value.cells, Value.oneCell', Nat.reduceAdd, Nat.reduceSub, Nat.reduceMul, Nat.reduceLeDiff, Int.reduceEq, Nat.reduceEqDiff, M11Fs57]
    exact ⟨⟨true, rfl, ⟨fun _ => hRD.2 hR, fun _ => rfl⟩⟩, x0.trans x1⟩
theorem take_get {xs : List Int} {i : Nat} (h : ∀ x ∈ xs, 0 ≤ x) (hi : i < xs.length) : (xs.take i).contains (xs.getD i 0) = ((natL xs).take i).contains ((natL xs).getD i 0) := by
  have h1 := zsN_natL h
  conv => lhs; rw [← h1]
  rw [Bool.eq_iff_iff, List.contains_iff_mem, List.contains_iff_mem]
  unfold zsN
  rw [← List.map_take, List.mem_map]
  have e : ((natL xs).map fun j : Nat => (j : Int)).getD i 0 = ((natL xs).getD i 0 : Nat) := by
    simp only [List.getD, List.getElem?_map]
    cases (natL xs)[i]? <;> rfl
  rw [e]
  constructor
  · rintro ⟨a, ha, he⟩
    rw [← show a = (natL xs).getD i 0 by omega]; exact ha
  · intro ha
    exact ⟨_, ha, rfl⟩
theorem different58 (b : Option Addr) (m k : Nat) (days : List Int) (h : Eng.Heap) (hd : IntsV h b m days) (hc : m ≤ k) (hl : m ≤ 1000000) (h0 : ∀ x ∈ days, 0 ≤ x) :
    CallsH Try.prog 58 #[.slice b m k] h (fun v h' => v = .int .i64 (MB.dif (natL days) : Nat) ∧ h' = h) := by
  have hml := hd.len
  (refine CallsH_of_exec Try.func58 rfl bod58 ?_; simp only [Try.ntmps58, Try.results58, coreS, stK_some, splice, Value.cells, Value.oneCell', Nat.reduceAdd, Nat.reduceSub, Nat.reduceMul, Nat.reduceLeDiff, Int.reduceEq, Nat.reduceEqDiff, M11Fs58])
  refine WP_loopI [3, 4, 5, 6, 7, 8, 9, 10, 11, 12, 13, 14, 15, 16, 17, 18, 19, 20, 21] (fun e h' => h' = h ∧ ∃ i : Nat, i ≤ m ∧ e 4 = .int .i64 i ∧ e 3 = .int .i64 (MB.cnt (fun i => !((natL days).take i).contains ((natL days).getD i 0)) i : Nat)) (fun e _ => match e 4 with | .int _ q => m - q.toNat | _ => 0) ⟨rfl, 0, by omega, rfl, rfl⟩ ?_
  rintro e h1 ⟨rfl, i, hi, he, he3⟩
  by_cases hil : i < days.length
  · have hlt : (i : Int) < (m : Int) := by omega
    have c1 := hd.cell hil
    have hds : b.isSome = true := hd.isSome (by omega)
    simp only [he, he3, hlt, decide_true, coreS, Value.cells, Value.oneCell', Nat.reduceAdd, Nat.reduceSub, Nat.reduceMul, Nat.reduceLeDiff, Int.reduceEq, Nat.reduceEqDiff, M11Fs58]
    refine WP_draw (by kernel_rfl) sta_eq [(0, 0), (1, 0), (2, 0), (3, 0), (4, 0), (5, 0), (6, 0), (7, 0), (8, 0)] (by kernel_rfl) rfl (by kernel_rfl) ?_
    have hsl := intsV_slice (lo := 0) (hi := i) (c := k) hd (by omega) hi hc
    have e1 : ((i : Int) - ((0 : Nat) : Int)).toNat = i := by omega
    simp only [Nat.sub_zero, List.drop_zero] at hsl
    have hcl := take_get h0 hil
    have hcb := MB.cnt_le (fun i => !((natL days).take i).contains ((natL days).getD i 0)) i
    have hcs := MB.cnt_succ (fun i => !((natL days).take i).contains ((natL days).getD i 0)) i
    simp only [he, c1, hvK_eq, Int.toNat_natCast, coreS, Value.cells, Value.oneCell', Nat.reduceAdd, Nat.reduceSub, Nat.reduceMul, Nat.reduceLeDiff, Int.reduceEq, Nat.reduceEqDiff, drawS, M11Fs58]
    simp only [e1]
    refine ⟨by omega, by omega, by omega, by omega, ⟨by omega, by omega⟩, hds, ?_⟩
    refine cQ_same _ (has71 _ i _ (days.take i) (days.getD i 0) h1 hsl (by omega)) ?_
    rw [hcl]
    cases hh : ((natL days).take i).contains ((natL days).getD i 0) with
    | true =>
      rw [hh] at hcs
      simp only [Bool.not_true, hvK_eq, coreS, Value.cells, Value.oneCell', Nat.reduceAdd, Nat.reduceSub, Nat.reduceMul, Nat.reduceLeDiff, Int.reduceEq, Nat.reduceEqDiff, drawS, M11Fs58]
      refine ⟨by rw [inK_i64]; omega, roundK_mk (by kernel_rfl) ⟨rfl, i + 1, by omega, rfl, ?_⟩ ?_⟩
      · rw [hcs]; rfl
      · show m - ((i : Int) + 1).toNat < m - (i : Int).toNat
        omega
    | false =>
      rw [hh] at hcs
      simp only [Bool.not_false, hvK_eq, coreS, Value.cells, Value.oneCell', Nat.reduceAdd, Nat.reduceSub, Nat.reduceMul, Nat.reduceLeDiff, Int.reduceEq, Nat.reduceEqDiff, drawS, M11Fs58]
      refine ⟨by rw [inK_i64]; omega, by rw [inK_i64]; omega, roundK_mk (by kernel_rfl) ⟨rfl, i + 1, by omega, rfl, ?_⟩ ?_⟩
      · rw [hcs]; rfl
      · show m - ((i : Int) + 1).toNat < m - (i : Int).toNat
        omega
  · obtain rfl : i = m := by omega
    have hlt : ¬ ((i : Int) < (i : Int)) := by omega
    simp only [he, he3, hlt, decide_false, coreS, Value.cells, Value.oneCell', Nat.reduceAdd, Nat.reduceSub, Nat.reduceMul, Nat.reduceLeDiff, Int.reduceEq, Nat.reduceEqDiff, M11Fs58]
    unfold MB.dif
    rw [natL_length, ← hml]
theorem checkDays21 (S M : Int) (a : Option Addr) (n c : Nat) (ws : List Wn) (b : Option Addr) (m k : Nat) (days : List Int) (h : Eng.Heap) (hr : Row h a (wsV ws)) (hn : n = ws.length) (hl : n ≤ 1000000) (hd : IntsV h b m days) (hm : m ≤ 1000000) (hmk : m ≤ k) :
    CallsH Try.prog 21 #[.agg #[.int .i64 S, .int .i64 M, .slice a n c], .slice b m k] h (fun v h' => v = .tuple #[.int .i64 (difD S M ws days), .int .i64 (chkD S M ws days)] ∧ Ext h h') := by
  have hml := hd.len
  (refine CallsH_of_exec Try.func21 rfl bod21 ?_; simp only [Try.ntmps21, Try.results21, coreS, stK_some, splice, Value.cells, Value.oneCell', Nat.reduceAdd, Nat.reduceSub, Nat.reduceMul, Nat.reduceLeDiff, Int.reduceEq, Nat.reduceEqDiff, M11Fs21])
  have x0 : Ext h (h.push (.cells #[.int .i64 S, .int .i64 M, .slice a n c] 24)) := (Ext.refl h).push _
  have fin : ∀ {e : Int} {Q : Prop}, chkD S M ws days = e → e ≠ 0 → Q → Value.tuple #[.int .i64 0, .int .i64 e] = Value.tuple #[.int .i64 (difD S M ws days), .int .i64 (chkD S M ws days)] ∧ Q := fun h1 h2 q => ⟨by unfold difD; rw [h1, if_neg h2], q⟩
  refine CallsH.mono (check23 S M a n c ws _ (hr.push _) hn hl) ?_
  rintro v h1 ⟨rfl, x1⟩
  have hb1 := x1.get (push_new (h := h))
  have y1 := x0.trans x1
  by_cases hc : chk S M ws = 0
  case neg =>
    simp only [hc, hb1, decide_false, Bool.not_false, coreS, Value.cells, Value.oneCell', Nat.reduceAdd, Nat.reduceSub, Nat.reduceMul, Nat.reduceLeDiff, Int.reduceEq, Nat.reduceEqDiff, M11Fs21]
    refine CallsH.mono (check23 S M a n c ws _ (hr.ext y1) hn hl) ?_
    rintro v h2 ⟨rfl, x2⟩
    simp only [coreS, Value.cells, Value.oneCell', Nat.reduceAdd, Nat.reduceSub, Nat.reduceMul, Nat.reduceLeDiff, Int.reduceEq, Nat.reduceEqDiff, M11Fs21]
    exact fin (by unfold chkD; rw [if_pos hc]) hc (y1.trans x2)
  obtain ⟨s, mm, rfl, rfl, V⟩ := chk_ok hc
  simp only [hc, hb1, Bool.not_true, decide_true, coreS, Value.cells, Value.oneCell', Nat.reduceAdd, Nat.reduceSub, Nat.reduceMul, Nat.reduceLeDiff, Int.reduceEq, Nat.reduceEqDiff, M11Fs21]
  refine ⟨fun heq => ?_, fun hne => fin (by unfold chkD; rw [if_neg (by simpa using hc), if_pos (by omega)]) (by omega) y1⟩
  have V3 := V.n
  refine WP_loopI [4, 5, 6, 18, 19, 20, 21, 22, 23, 24, 25, 26, 27, 28, 29, 30, 31, 32, 33, 34, 35] (fun e h' => h' = h1 ∧ ∃ i : Nat, i ≤ m ∧ e 6 = .int .i64 i ∧ ∀ j, j < i → 0 ≤ days.getD j 0 ∧ days.getD j 0 ≤ 13) (fun e _ => match e 6 with | .int _ q => m - q.toNat | _ => 0) ⟨rfl, 0, by omega, rfl, fun j hj => by omega⟩ ?_
  rintro e h' ⟨rfl, i, hi, he, hno⟩
  have hd1 := hd.ext y1
  have bad : ∀ i, i < days.length → ¬ (0 ≤ days.getD i 0 ∧ days.getD i 0 ≤ 13) → chkD (s : Int) (mm : Int) ws days = 3 := fun i hi hb => by
    unfold chkD
    rw [if_neg (by simpa using hc), if_neg (by omega), if_pos]
    rw [Bool.eq_false_iff]
    intro hin
    exact hb (inB_iff.1 hin _ (by simp [List.getD, List.getElem?_eq_getElem hi]))
  by_cases hil : i < days.length
  · have hlt : (i : Int) < (m : Int) := by omega
    have hds : b.isSome = true := hd.isSome (by omega)
    have c1 := hd1.cell hil
    simp only [he, hlt, c1, decide_true, Int.toNat_natCast, coreS, Value.cells, Value.oneCell', Nat.reduceAdd, Nat.reduceSub, Nat.reduceMul, Nat.reduceLeDiff, Int.reduceEq, Nat.reduceEqDiff, M11Fs21]
    refine ⟨by omega, hds, ⟨fun g1 => fin (bad i hil (by omega)) (by omega) y1, fun g1 => ?_⟩⟩
    refine ⟨by omega, hds, ⟨fun g2 => fin (bad i hil (by omega)) (by omega) y1, fun g2 => ?_⟩⟩
    refine ⟨by rw [inK_i64]; omega, roundK_mk (by kernel_rfl) ⟨rfl, i + 1, by omega, rfl, fun j hj => ?_⟩ ?_⟩
    · by_cases hji : j = i
      · subst hji; omega
      · exact hno j (by omega)
    · show m - ((i : Int) + 1).toNat < m - (i : Int).toNat
      omega
  · obtain rfl : i = m := by omega
    have hlt : ¬ ((i : Int) < (i : Int)) := by omega
    have hall : ∀ x ∈ days, 0 ≤ x ∧ x ≤ 13 := fun x hx => by
      obtain ⟨j, hj, rfl⟩ := List.getElem_of_mem hx
      have := hno j (by omega)
      simpa [List.getD, List.getElem?_eq_getElem hj] using this
    have hin := inB_iff.2 hall
    simp only [he, hlt, hb1, decide_false, coreS, Value.cells, Value.oneCell', Nat.reduceAdd, Nat.reduceSub, Nat.reduceMul, Nat.reduceLeDiff, Int.reduceEq, Nat.reduceEqDiff, M11Fs21]
    refine CallsH.mono (isRight57 s mm a n c ws b i k days h' (hr.ext y1) hn V hd1 (by omega) fun x hx => (hall x hx).1) ?_
    rintro v h2 ⟨⟨r, rfl, hrr⟩, x2⟩
    have y2 := y1.trans x2
    cases r with
    | false =>
      simp only [Bool.not_false, coreS, Value.cells, Value.oneCell', Nat.reduceAdd, Nat.reduceSub, Nat.reduceMul, Nat.reduceLeDiff, Int.reduceEq, Nat.reduceEqDiff, M11Fs21]
      refine fin ?_ (by omega) y2
      unfold chkD
      rw [if_neg (by simpa using hc), if_neg (by omega), if_neg (by simp [hin]), if_neg]
      exact fun hh => absurd (hrr.2 hh) (by simp)
    | true =>
      have hD : chkD (s : Int) (mm : Int) ws days = 0 := by
        unfold chkD
        rw [if_neg (by simpa using hc), if_neg (by omega), if_neg (by simp [hin]), if_pos (hrr.1 rfl)]
      have hD2 : difD (s : Int) (mm : Int) ws days = (MB.dif (natL days) : Nat) := by unfold difD; rw [if_pos hD]
      simp only [Bool.not_true, coreS, Value.cells, Value.oneCell', Nat.reduceAdd, Nat.reduceSub, Nat.reduceMul, Nat.reduceLeDiff, Int.reduceEq, Nat.reduceEqDiff, M11Fs21]
      refine CallsH.mono (different58 b i k days h2 (hd.ext y2) hmk hm fun x hx => (hall x hx).1) ?_
      rintro v h3 ⟨rfl, rfl⟩
      simp only [hD, hD2, coreS, Value.cells, Value.oneCell', Nat.reduceAdd, Nat.reduceSub, Nat.reduceMul, Nat.reduceLeDiff, Int.reduceEq, Nat.reduceEqDiff, M11Fs21]
      exact y2
end Go.Proofs.Ytmgkeeefbfefgaa
