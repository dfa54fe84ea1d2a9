/- Walks: CheckShort of the document. -/
import Derived.Test.YtmgkeeefbfefgaaPDQM40
import Derived.Test.YtmgkeeefbfefgaaPD12
namespace Go.Proofs.Ytmgkeeefbfefgaa
open Go Go.Proofs Go.Eng Go.Run Tab
set_option maxRecDepth 100000
set_option linter.unusedSimpArgs false
set_option linter.unusedVariables false
set_option linter.defProp false
set_option maxHeartbeats 2000000
set_option linter.defProp false
def M41Fs43 := (And.intro (And.intro (And.intro @agg24 @agg3) (And.intro @by3 @inf24)) (And.intro (And.intro @inf3 @sz24) (And.intro @sz3 @Try.underlying25)))
def M41Fs77 := (And.intro (And.intro (And.intro (And.intro @agg22 @agg3) (And.intro @by3 @by58)) (And.intro (And.intro @fo24_1 @fo24_2) (And.intro @fo58_0 @fo58_1))) (And.intro (And.intro (And.intro @inf22 @inf3) (And.intro @inf58 @sz22)) (And.intro (And.intro @sz3 @sz58) (And.intro @zero3 (And.intro @Try.underlying22 @Try.underlying25)))))
theorem gd_none {P : Program} {s : Tmp} {w : Bool} {op : Op} {ty : TypeId} {all rest : List Oper} {k : Cont} {dst : Option Tmp} {e : Env} {d : List Deferred} {h : Eng.Heap} : gd P undef s w op ty all rest k dst e d h = execR P all rest k (putE e dst undef) d h := gd_undef
theorem wanting43 (S M : Nat) (a : Option Addr) (n c : Nat) (ws : List Wn) (h : Eng.Heap) (hr : Row h a (wsV ws)) (hn : n = ws.length) (V : Vb S M ws) :
    CallsH Try.prog 43 #[.agg #[.int .i64 S, .int .i64 M, .slice a n c]] h (fun v h' => v = .int .i64 ((MB.wnt (shN ws) ws.length S).length : Nat) ∧ Ext h h') := by
  have hV := V.n
  have v2 := V.s2
  (refine CallsH_of_exec Try.func43 rfl bod43 ?_; simp only [Try.ntmps43, Try.results43, coreS, stK_some, splice, Value.cells, Value.oneCell', Nat.reduceAdd, Nat.reduceSub, Nat.reduceMul, Nat.reduceLeDiff, Int.reduceEq, Nat.reduceEqDiff, M41Fs43])
  have x0 : Ext h (h.push (.cells #[.int .i64 S, .int .i64 M, .slice a n c] 24)) := (Ext.refl h).push _
  refine CallsH.mono (loadsOf51 S M a n c ws _ (hr.ext x0) hn V) ?_
  rintro v h1 ⟨⟨p, q, rfl, _, _, _, hp, hq⟩, x1⟩
  have y1 := x0.trans x1
  have i1 : IntsV h1 (some ⟨p, 0, none⟩) S (ldL (shN ws) S n) := by
    have := IntsV.block (xs := ldL (shN ws) S n) hp
    rwa [ldL_length] at this
  simp only [coreS, Value.cells, Value.oneCell', Nat.reduceAdd, Nat.reduceSub, Nat.reduceMul, Nat.reduceLeDiff, Int.reduceEq, Nat.reduceEqDiff, M41Fs43]
  refine WP_loopI [5, 6, 12, 13, 14, 15, 16, 17, 18, 19, 20, 21, 22, 23, 24] (fun e h' => h' = h1 ∧ ∃ k : Nat, k ≤ S ∧ e 6 = .int .i64 k ∧ e 5 = .int .i64 (MB.cnt (fun s => decide (0 < MB.load (shN ws) n s)) k : Nat)) (fun e _ => match e 6 with | .int _ q => S - q.toNat | _ => 0) ⟨rfl, 0, by omega, rfl, by simp [MB.cnt]⟩ ?_
  rintro e h2 ⟨rfl, k, hk, he, he5⟩
  have hcl : MB.cnt (fun s => decide (0 < MB.load (shN ws) n s)) k ≤ k := MB.cnt_le _ _
  by_cases hks : k < S
  · have hlt : (k : Int) < (S : Int) := by omega
    have meas : S - ((k : Int) + 1).toNat < S - (k : Int).toNat := by omega
    have c1 := i1.cell (j := k) (by rw [ldL_length]; exact hks)
    rw [ldL_get hks, eltP_some, cellH_eq, Nat.zero_add] at c1
    have cs := MB.cnt_succ (fun s => decide (0 < MB.load (shN ws) n s)) k
    by_cases h0 : 0 < MB.load (shN ws) n k
    · have h0i : (0 : Int) < (MB.load (shN ws) n k : Nat) := by omega
      simp only [he, he5, hlt, c1, h0i, decide_true, Int.toNat_natCast, coreS, Value.cells, Value.oneCell', Nat.reduceAdd, Nat.reduceSub, Nat.reduceMul, Nat.reduceLeDiff, Int.reduceEq, Nat.reduceEqDiff, M41Fs43]
      refine ⟨by omega, rfl, by rw [inK_i64]; omega, by rw [inK_i64]; omega, roundK_mk (by kernel_rfl) ⟨rfl, k + 1, by omega, rfl, ?_⟩ meas⟩
      rw [cs, if_pos (by simpa using h0)]; rfl
    · have h0i : ¬ (0 : Int) < (MB.load (shN ws) n k : Nat) := by omega
      simp only [he, he5, hlt, c1, h0i, decide_true, decide_false, Int.toNat_natCast, coreS, Value.cells, Value.oneCell', Nat.reduceAdd, Nat.reduceSub, Nat.reduceMul, Nat.reduceLeDiff, Int.reduceEq, Nat.reduceEqDiff, M41Fs43]
      refine ⟨by omega, rfl, by rw [inK_i64]; omega, roundK_mk (by kernel_rfl) ⟨rfl, k + 1, by omega, rfl, ?_⟩ meas⟩
      rw [cs, if_neg (by simpa using h0)]; rfl
  obtain rfl : k = S := by omega
  simp only [he, he5, show ¬ ((k : Int) < (k : Int)) by omega, decide_false, coreS, Value.cells, Value.oneCell', Nat.reduceAdd, Nat.reduceSub, Nat.reduceMul, Nat.reduceLeDiff, Int.reduceEq, Nat.reduceEqDiff, M41Fs43]
  refine ⟨?_, y1⟩
  rw [hn]; rfl
def wtB (ws : List Wn) (own : List Nat) (m i : Nat) : Bool := moN ws i == m && own.contains (shN ws i)
theorem wanted77 (S M : Nat) (a : Option Addr) (n c : Nat) (ws : List Wn) (b : Option Addr) (k d : Nat) (own : List Nat) (h : Eng.Heap) (hr : Row h a (wsV ws)) (hn : n = ws.length) (V : Vb S M ws) (hx : IntsV h b k (zsN own)) (hk : k ≤ 1000000) :
    CallsH Try.prog 77 #[.agg #[.int .i64 S, .int .i64 M, .slice a n c], .slice b k d] h (fun v h' => (∃ a' c', v = .slice a' (MB.wtd (shN ws) (moN ws) ws.length M own).length c') ∧ Ext h h') := by
  have hV := V.n
  have v4 := V.m2
  (refine CallsH_of_exec Try.func77 rfl bod77 ?_; simp only [Try.ntmps77, Try.results77, coreS, stK_some, splice, Value.cells, Value.oneCell', Nat.reduceAdd, Nat.reduceSub, Nat.reduceMul, Nat.reduceLeDiff, Int.reduceEq, Nat.reduceEqDiff, M41Fs77])
  have x0 : Ext h (h.push (.cells #[.int .i64 S, .int .i64 M, .slice a n c] 24)) := (Ext.refl h).push _
  have q0 := push_new (h := h) (o := .cells #[.int .i64 S, .int .i64 M, .slice a n c] 24)
  generalize h.push (.cells #[.int .i64 S, .int .i64 M, .slice a n c] 24) = hh at x0 q0 ⊢
  obtain ⟨L, hL⟩ : ∃ L : Nat → List Nat, L = fun j => (List.range j).filter fun m => (List.range n).any fun i => moN ws i == m && own.contains (shN ws i) := ⟨_, rfl⟩
  have L0 : L 0 = [] := by rw [hL]; rfl
  have Ln : ∀ j, L (j + 1) = L j ++ if (List.range n).any (wtB ws own j) then [j] else [] := fun j => by
    rw [hL]
    have hPj : ((List.range n).any fun i => moN ws i == j && own.contains (shN ws i)) = (List.range n).any (wtB ws own j) := rfl
    simp only [List.range_succ, List.filter_append, List.filter_cons, List.filter_nil, hPj]
  have Ll : ∀ j, (L j).length ≤ j := fun j => by
    rw [hL]
    have := List.length_filter_le (fun m => (List.range n).any fun i => moN ws i == m && own.contains (shN ws i)) (List.range j)
    rw [List.length_range] at this
    exact this
  refine WP_loopI [5, 6, 7, 8, 9, 10, 11, 12, 13, 14, 15, 16, 17, 18, 19, 20, 21, 22, 23, 24, 25, 26, 27, 28, 29, 30, 31, 32, 33, 34, 35, 36, 37, 38, 39, 40, 41, 42, 43, 44, 45, 46, 47] (fun e h' => Ext hh h' ∧ ∃ j : Nat, j ≤ M ∧ e 6 = .int .i64 j ∧ ∃ aO cO, e 5 = .slice aO (L j).length cO ∧ OwnI hh.size h' 3 aO (L j).length cO (zsN (L j))) (fun e _ => match e 6 with | .int _ q => M - q.toNat | _ => 0) ⟨Ext.refl _, 0, by omega, rfl, none, 0, by rw [L0]; rfl, by rw [L0]; exact OwnI.nil _ _ _⟩ ?_
  rintro e h1 ⟨x1, j, hj, he, aO, cO, heO, OO⟩
  have q1 := x1.get q0
  have Lj := Ll j
  by_cases hjM : j < M
  case neg =>
    obtain rfl : j = M := by omega
    simp only [he, heO, q1, show ¬ ((j : Int) < (j : Int)) by omega, decide_false, coreS, Value.cells, Value.oneCell', Nat.reduceAdd, Nat.reduceSub, Nat.reduceMul, Nat.reduceLeDiff, Int.reduceEq, Nat.reduceEqDiff, M41Fs77]
    refine ⟨⟨aO, cO, ?_⟩, x0.trans x1⟩
    rw [hL, hn]; rfl
  have hlt : (j : Int) < (M : Int) := by omega
  have meas : M - ((j : Int) + 1).toNat < M - (j : Int).toNat := by omega
  simp only [he, heO, q1, hlt, decide_true, coreS, Value.cells, Value.oneCell', Nat.reduceAdd, Nat.reduceSub, Nat.reduceMul, Nat.reduceLeDiff, Int.reduceEq, Nat.reduceEqDiff, M41Fs77]
  refine WP_loopI [7, 8, 15, 16, 17, 18, 19, 20, 21, 22, 23, 24, 25, 26, 27, 28, 29, 30, 31, 32, 33, 34, 35, 36, 37, 38, 39, 40, 41, 42] (fun e h' => h' = h1 ∧ ∃ i : Nat, i ≤ n ∧ e 8 = .int .i64 i ∧ e 7 = .bool ((List.range i).any (wtB ws own j))) (fun e _ => match e 8 with | .int _ q => n - q.toNat | _ => 0) ⟨rfl, 0, by omega, rfl, rfl⟩ ?_
  rintro e2 h2 ⟨rfl, i, hi, he8, he7⟩
  by_cases hin : i < n
  · have hlt2 : (i : Int) < (n : Int) := by omega
    have hiw : i < ws.length := by omega
    have meas2 : n - ((i : Int) + 1).toNat < n - (i : Int).toNat := by omega
    have hr1 := hr.ext (x0.trans x1)
    have fa := faR hr1 hiw
    have c0 := cellW0 hr1 hiw
    have c1 := cellW1 hr1 hiw
    rw [(V.s hiw).1] at c0
    rw [(V.m hiw).1] at c1
    have sm := rowW_some hr1 hiw
    have an : (List.range (i + 1)).any (wtB ws own j) = ((List.range i).any (wtB ws own j) || wtB ws own j i) := by
      simp [List.range_succ, List.any_append]
    cases hb : (List.range i).any (wtB ws own j) with
    | true =>
      rw [hb] at an he7
      simp only [he8, he7, q1, hlt2, decide_true, gd_none, coreS, Value.cells, Value.oneCell', Nat.reduceAdd, Nat.reduceSub, Nat.reduceMul, Nat.reduceLeDiff, Int.reduceEq, Nat.reduceEqDiff, M41Fs77]
      refine ⟨by rw [inK_i64]; omega, roundK_mk (by kernel_rfl) ⟨rfl, i + 1, by omega, rfl, by rw [an]; rfl⟩ meas2⟩
    | false =>
      rw [hb] at an he7
      by_cases hm : ((moN ws i : Nat) : Int) = (j : Int)
      · simp only [he8, he7, q1, hlt2, fa, c0, c1, hm, decide_true, Int.toNat_natCast, coreS, Value.cells, Value.oneCell', Nat.reduceAdd, Nat.reduceSub, Nat.reduceMul, Nat.reduceLeDiff, Int.reduceEq, Nat.reduceEqDiff, M41Fs77]
        refine ⟨by omega, sm, by omega, sm, ?_⟩
        refine CallsH.mono (has71 b k d (zsN own) (shN ws i : Nat) h2 (hx.ext (x0.trans x1)) hk) ?_
        rintro v h3 ⟨rfl, rfl⟩
        rw [zsN_has]
        have ew : wtB ws own j i = own.contains (shN ws i) := by
          have : (moN ws i == j) = true := by simp; omega
          unfold wtB
          rw [this, Bool.true_and]
        simp only [he8, coreS, Value.cells, Value.oneCell', Nat.reduceAdd, Nat.reduceSub, Nat.reduceMul, Nat.reduceLeDiff, Int.reduceEq, Nat.reduceEqDiff, M41Fs77]
        refine ⟨by rw [inK_i64]; omega, roundK_mk (by kernel_rfl) ⟨rfl, i + 1, by omega, rfl, by rw [an, ew, Bool.false_or]; rfl⟩ meas2⟩
      · have ew : wtB ws own j i = false := by
          have : (moN ws i == j) = false := by simp; omega
          unfold wtB
          rw [this, Bool.false_and]
        simp only [he8, he7, q1, hlt2, fa, c1, hm, decide_true, decide_false, Int.toNat_natCast, gd_none, coreS, Value.cells, Value.oneCell', Nat.reduceAdd, Nat.reduceSub, Nat.reduceMul, Nat.reduceLeDiff, Int.reduceEq, Nat.reduceEqDiff, M41Fs77]
        refine ⟨by omega, sm, by rw [inK_i64]; omega, roundK_mk (by kernel_rfl) ⟨rfl, i + 1, by omega, rfl, by rw [an, ew]; rfl⟩ meas2⟩
  obtain rfl : i = n := by omega
  have Lj1 := Ln j
  cases hb : (List.range i).any (wtB ws own j) with
  | false =>
    rw [hb] at he7 Lj1
    rw [if_neg (by decide), List.append_nil] at Lj1
    simp only [he, he8, he7, heO, q1, show ¬ ((i : Int) < (i : Int)) by omega, decide_false, coreS, Value.cells, Value.oneCell', Nat.reduceAdd, Nat.reduceSub, Nat.reduceMul, Nat.reduceLeDiff, Int.reduceEq, Nat.reduceEqDiff, M41Fs77]
    refine ⟨by rw [inK_i64]; omega, roundK_mk (by kernel_rfl) ⟨x1, j + 1, by omega, rfl, aO, cO, by rw [Lj1]; rfl, by rw [Lj1]; exact OO⟩ meas⟩
  | true =>
    rw [hb] at he7 Lj1
    rw [if_pos rfl] at Lj1
    simp only [he8, he7, heO, q1, show ¬ ((i : Int) < (i : Int)) by omega, decide_false, coreS, Value.cells, Value.oneCell', Nat.reduceAdd, Nat.reduceSub, Nat.reduceMul, Nat.reduceLeDiff, Int.reduceEq, Nat.reduceEqDiff, M41Fs77]
    have OO' := OO.ext ((Ext.refl h2).push (.cells #[.int .i64 (j : Int)] 3))
    refine app25 (m0 := hh.size) (len := (L j).length) (m := 1) (ys := [(j : Int)]) rfl rfl OO' (by rw [push_size]; have := x1.size; omega) (intsV_one push_new) (by omega) fun a' cap' h5 O5 A5 => ?_
    have ezn : zsN (L j) ++ [(j : Int)] = zsN (L (j + 1)) := by rw [Lj1]; simp [zsN]
    have ell : (L j).length + 1 = (L (j + 1)).length := by rw [Lj1]; simp
    rw [ezn, ell] at O5
    simp only [he, coreS, Value.cells, Value.oneCell', Nat.reduceAdd, Nat.reduceSub, Nat.reduceMul, Nat.reduceLeDiff, Int.reduceEq, Nat.reduceEqDiff, M41Fs77]
    refine ⟨by rw [inK_i64]; omega, roundK_mk (by kernel_rfl) ⟨A5.extN OO' (x1.push _) (Nat.le_refl _), j + 1, by omega, rfl, a', cap', by rw [← ell]; rfl, O5⟩ meas⟩
end Go.Proofs.Ytmgkeeefbfefgaa
