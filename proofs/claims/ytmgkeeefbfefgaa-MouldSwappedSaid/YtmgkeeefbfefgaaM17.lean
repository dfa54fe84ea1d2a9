/- Walks: clash, near, and the wants of two days. -/
import Derived.Test.YtmgkeeefbfefgaaM10
import Derived.Test.YtmgkeeefbfefgaaEngF
import Derived.Test.YtmgkeeefbfefgaaEngD
namespace Go.Proofs.Ytmgkeeefbfefgaa
open Go Go.Proofs Go.Eng Go.Run Tab
set_option maxRecDepth 100000
set_option linter.unusedSimpArgs false
set_option linter.unusedVariables false
set_option linter.defProp false
set_option maxHeartbeats 2000000
set_option linter.defProp false
def M17Fs65 := (And.intro (And.intro (And.intro @agg22 (And.intro @agg3 @by58)) (And.intro (And.intro @fo24_2 @fo58_0) (And.intro @fo58_1 @fo99_0))) (And.intro (And.intro @inf22 (And.intro @inf3 @inf58)) (And.intro (And.intro @sz22 @sz3) (And.intro @sz58 @Try.underlying22))))
def M17Fs95 := (And.intro (And.intro (And.intro @agg25 @agg3) (And.intro @by3 @inf25)) (And.intro (And.intro @inf3 @sz25) (And.intro @sz3 @Try.underlying25)))
def M17Fs120 := (And.intro (And.intro (And.intro @agg22 (And.intro @agg3 @agg64)) (And.intro @fo24_2 (And.intro @fo99_0 @inf22))) (And.intro (And.intro @inf3 (And.intro @inf64 @sz22)) (And.intro @sz3 (And.intro @sz64 @Try.underlying22))))
theorem clash65 (g b S M : Nat) (a : Option Addr) (n c : Nat) (ws : List Wn) (i k : Nat) (h : Eng.Heap) (hg : DeskB h g b S M a n c) (hr : Row h a (wsV ws)) (hn : n = ws.length) (V : Vb S M ws) (hi : i < ws.length) (hk : k < ws.length) :
    CallsH Try.prog 65 #[.pointer (some ⟨g, 0, none⟩), .int .i64 i, .int .i64 k] h (fun v h' => v = .bool (MB.clash (shN ws) (moN ws) i k) ∧ h' = h) := by
  unfold DeskB at hg
  (refine CallsH_of_exec Try.func65 rfl bod65 ?_; simp only [Try.ntmps65, Try.results65, coreS, stK_some, splice, Value.cells, Value.oneCell', Nat.reduceAdd, Nat.reduceSub, Nat.reduceMul, Nat.reduceLeDiff, Int.reduceEq, Nat.reduceEqDiff, M17Fs65])
  have fa := faR hr hi
  have a0 := cellW0 hr hi
  have a1 := cellW1 hr hi
  have b0 := cellW0 hr hk
  have b1 := cellW1 hr hk
  rw [(V.s hi).1] at a0
  rw [(V.m hi).1] at a1
  rw [(V.s hk).1] at b0
  rw [(V.m hk).1] at b1
  have hsm := rowW_some hr hi
  have hcl : MB.clash (shN ws) (moN ws) i k = (decide (((shN ws i : Nat) : Int) = (shN ws k : Nat)) || decide (((moN ws i : Nat) : Int) = (moN ws k : Nat))) := by
    unfold MB.clash
    congr 1
    · rw [Bool.eq_iff_iff]; simp; omega
    · rw [Bool.eq_iff_iff]; simp; omega
  rw [hcl]
  refine WP_draw (by kernel_rfl) sta_eq [(0, 0), (1, 0), (2, 0), (3, 0), (4, 0), (5, 0), (6, 0), (7, 0), (8, 0), (9, 0), (10, 0), (11, 0), (12, 0), (13, 0), (14, 0), (15, 0), (16, 0), (17, 0), (18, 0), (19, 0), (20, 0), (21, 0), (22, 0), (23, 0), (24, 0), (25, 0), (26, 0), (27, 0), (28, 0), (29, 0), (30, 0), (31, 0), (32, 0), (33, 0), (34, 0), (35, 0), (36, 0), (37, 0), (38, 0), (39, 0), (40, 0)] (by kernel_rfl) rfl (by kernel_rfl) ?_
  by_cases h1 : ((shN ws i : Nat) : Int) = (shN ws k : Nat)
  · simp only [hg, fa, a0, a1, b0, b1, h1, decide_true, hvK_eq, Int.toNat_natCast, coreS, Value.cells, Value.oneCell', Nat.reduceAdd, Nat.reduceSub, Nat.reduceMul, Nat.reduceLeDiff, Int.reduceEq, Nat.reduceEqDiff, drawS, M17Fs65]
    refine ⟨⟨by omega, by omega⟩, hsm, ⟨by omega, by omega⟩, hsm, ?_⟩
    simp
  · simp only [hg, fa, a0, a1, b0, b1, h1, decide_false, hvK_eq, Int.toNat_natCast, coreS, Value.cells, Value.oneCell', Nat.reduceAdd, Nat.reduceSub, Nat.reduceMul, Nat.reduceLeDiff, Int.reduceEq, Nat.reduceEqDiff, drawS, M17Fs65]
    refine ⟨⟨by omega, by omega⟩, hsm, ⟨by omega, by omega⟩, hsm, ⟨by omega, by omega⟩, hsm, ⟨by omega, by omega⟩, hsm, ?_⟩
    simp
/-- The wants that clash with one. -/
def nrB (ws : List Wn) (i k : Nat) : Bool := decide (k ≠ i) && MB.clash (shN ws) (moN ws) i k
def nrL (ws : List Wn) (i n : Nat) : List Nat := (List.range n).filter (nrB ws i)
def nrX (l : List Nat) : List (List Value) := l.map fun k : Nat => [.int .i64 k]
theorem nrL_yes {ws : List Wn} {i k : Nat} (h : nrB ws i k = true) : nrL ws i (k + 1) = nrL ws i k ++ [k] := by
  simp [nrL, List.range_succ, List.filter_append, h]
theorem nrL_no {ws : List Wn} {i k : Nat} (h : nrB ws i k = false) : nrL ws i (k + 1) = nrL ws i k := by
  simp [nrL, List.range_succ, List.filter_append, h]
theorem nrL_pre {ws : List Wn} {i k n : Nat} (h : k ≤ n) : ∃ M, nrL ws i n = nrL ws i k ++ M ∧ ∀ x ∈ M, k ≤ x := by
  obtain ⟨m, rfl⟩ : ∃ m, n = k + m := ⟨n - k, by omega⟩
  refine ⟨((List.range m).map (fun x => k + x)).filter (nrB ws i), ?_, ?_⟩
  · rw [nrL, nrL, List.range_add, List.filter_append]
  · intro x hx
    obtain ⟨y, _, rfl⟩ := List.mem_map.1 (List.mem_filter.1 hx).1
    omega
theorem nrL_at {ws : List Wn} {i k n : Nat} (hk : k < n) (h : nrB ws i k = true) : (nrL ws i n)[(nrL ws i k).length]? = some k := by
  obtain ⟨M, hM, _⟩ := nrL_pre (ws := ws) (i := i) (show k + 1 ≤ n by omega)
  rw [hM, nrL_yes h, List.append_assoc, List.getElem?_append_right (Nat.le_refl _), Nat.sub_self]
  rfl
theorem near112 (g : Nat) (i : Int) (h : Eng.Heap) : CallsH Try.prog 112 #[.pointer (some ⟨g, 0, none⟩), .int .i64 i] h (fun v h' => v = .func (.func 120) #[] #[.pointer (some ⟨h.size, 0, none⟩), .pointer (some ⟨h.size + 1, 0, none⟩)] ∧ h' = (h.push (.cells #[.pointer (some ⟨g, 0, none⟩)] 64)).push (.cells #[.int .i64 i] 3)) := by
  (refine CallsH_of_exec Try.func112 rfl bod112 ?_; simp only [Try.ntmps112, Try.results112, coreS, stK_some, splice, Value.cells, Value.oneCell', Nat.reduceAdd, Nat.reduceSub, Nat.reduceMul, Nat.reduceLeDiff, Int.reduceEq, Nat.reduceEqDiff])
theorem near120 (lo b1 b2 g b S M : Nat) (a : Option Addr) (n c : Nat) (ws : List Wn) (i : Nat) (h : Eng.Heap) (hn : n = ws.length) (V : Vb S M ws) (hi : i < ws.length) (J : Nat → Eng.Heap → Prop) (E : Eng.Heap → Prop)
    (hF : ∀ k h', J k h' → Row h' a (wsV ws) ∧ DeskB h' g b S M a n c ∧ h'[b1]? = some (.cells #[.pointer (some ⟨g, 0, none⟩)] 64) ∧ h'[b2]? = some (.cells #[.int .i64 (i : Int)] 3)) (h0 : J 0 h)
    (step : ∀ k h' vs, (nrX (nrL ws i n))[k]? = some vs → J k h' → CallY Try.prog (.func (.yield lo) #[] #[]) vs h' (fun v h'' => (v = .bool true ∧ J (k + 1) h'') ∨ (v = .bool false ∧ E h''))) :
    CallsH Try.prog 120 (#[] ++ #[.func (.yield lo) #[] #[]] ++ #[.pointer (some ⟨b1, 0, none⟩), .pointer (some ⟨b2, 0, none⟩)]) h (fun _ h' => J (nrX (nrL ws i n)).length h' ∨ E h') := by
  simp only [Array.append_empty, Array.empty_append, List.append_toArray, List.cons_append, List.nil_append]
  obtain ⟨hr, k1, k2, k3⟩ := hF 0 h h0
  have hV := V.n
  have elen : ∀ k, (nrX (nrL ws i k)).length = (nrL ws i k).length := fun k => by simp [nrX]
  unfold DeskB at k1
  (refine CallsH_of_exec Try.func120 rfl bod120 ?_; simp only [Try.ntmps120, Try.results120, coreS, stK_some, splice, Value.cells, Value.oneCell', Nat.reduceAdd, Nat.reduceSub, Nat.reduceMul, Nat.reduceLeDiff, Int.reduceEq, Nat.reduceEqDiff, M17Fs120])
  simp only [k1, k2, coreS, Value.cells, Value.oneCell', Nat.reduceAdd, Nat.reduceSub, Nat.reduceMul, Nat.reduceLeDiff, Int.reduceEq, Nat.reduceEqDiff, M17Fs120]
  refine WP_loopI [4, 11, 12, 13, 14, 15, 16, 17, 18, 19, 20, 21, 22, 23, 24, 25, 26, 27, 28, 29] (fun g h' => ∃ k : Nat, k ≤ n ∧ g 11 = .int .i64 k ∧ J (nrL ws i k).length h') (fun g _ => match g 11 with | .int _ m => n - m.toNat | _ => 0) ⟨0, by omega, rfl, h0⟩ ?_
  rintro e h' ⟨k, hk, he, hJ⟩
  obtain ⟨r1, r2, r3, r4⟩ := hF _ _ hJ
  by_cases hkn : k < n
  · have hlt : (k : Int) < (n : Int) := by omega
    have next : ∀ h2, J (nrL ws i (k + 1)).length h2 → ∃ q : Nat, q ≤ n ∧ (Value.int .i64 ((k : Int) + 1)) = .int .i64 (q : Nat) ∧ J (nrL ws i q).length h2 := fun h2 hh => ⟨k + 1, by omega, rfl, hh⟩
    by_cases hki : (k : Int) = (i : Int)
    · obtain rfl : k = i := by omega
      have hb : nrB ws k k = false := by simp [nrB]
      simp only [he, hlt, r4, eq_self, decide_true, Bool.not_true, coreS, Value.cells, Value.oneCell', Nat.reduceAdd, Nat.reduceSub, Nat.reduceMul, Nat.reduceLeDiff, Int.reduceEq, Nat.reduceEqDiff, scopeK_normal, scopeK_ret, scopeK_exit, callV_yield, binds_cons, binds_nil, M17Fs120]
      refine ⟨by rw [inK_i64]; omega, roundK_mk (by kernel_rfl) ⟨k + 1, by omega, rfl, by rw [nrL_no hb]; exact hJ⟩ ?_⟩
      show n - ((k : Int) + 1).toNat < n - (k : Int).toNat
      omega
    · simp only [he, hlt, r3, r4, hki, decide_true, decide_false, Bool.not_false, coreS, Value.cells, Value.oneCell', Nat.reduceAdd, Nat.reduceSub, Nat.reduceMul, Nat.reduceLeDiff, Int.reduceEq, Nat.reduceEqDiff, scopeK_normal, scopeK_ret, scopeK_exit, callV_yield, binds_cons, binds_nil, M17Fs120]
      refine CallsH.mono (clash65 g b S M a n c ws i k h' r2 r1 hn V hi (by omega)) ?_
      rintro v h2 ⟨rfl, rfl⟩
      cases hcl : MB.clash (shN ws) (moN ws) i k with
      | false =>
        have hb : nrB ws i k = false := by simp [nrB, hcl]
        simp only [he, coreS, Value.cells, Value.oneCell', Nat.reduceAdd, Nat.reduceSub, Nat.reduceMul, Nat.reduceLeDiff, Int.reduceEq, Nat.reduceEqDiff, scopeK_normal, scopeK_ret, scopeK_exit, callV_yield, binds_cons, binds_nil, M17Fs120]
        refine ⟨by rw [inK_i64]; omega, roundK_mk (by kernel_rfl) ⟨k + 1, by omega, rfl, by rw [nrL_no hb]; exact hJ⟩ ?_⟩
        show n - ((k : Int) + 1).toNat < n - (k : Int).toNat
        omega
      | true =>
        have hb : nrB ws i k = true := by
          have : k ≠ i := fun e => hki (by rw [e])
          simp [nrB, hcl, this]
        simp only [coreS, Value.cells, Value.oneCell', Nat.reduceAdd, Nat.reduceSub, Nat.reduceMul, Nat.reduceLeDiff, Int.reduceEq, Nat.reduceEqDiff, scopeK_normal, scopeK_ret, scopeK_exit, callV_yield, binds_cons, binds_nil, M17Fs120]
        have hst := step _ h2 [.int .i64 (k : Int)] (by rw [nrX, List.getElem?_map, nrL_at hkn hb]; rfl) hJ
        refine hst.run1 rfl rfl ?_
        rintro v h3 (⟨rfl, hJ2⟩ | ⟨rfl, hE⟩)
        · simp only [he, Bool.not_true, coreS, Value.cells, Value.oneCell', Nat.reduceAdd, Nat.reduceSub, Nat.reduceMul, Nat.reduceLeDiff, Int.reduceEq, Nat.reduceEqDiff, scopeK_normal, scopeK_ret, scopeK_exit, callV_yield, binds_cons, binds_nil, M17Fs120]
          refine ⟨by rw [inK_i64]; omega, roundK_mk (by kernel_rfl) ⟨k + 1, by omega, rfl, by rw [nrL_yes hb, List.length_append]; exact hJ2⟩ ?_⟩
          show n - ((k : Int) + 1).toNat < n - (k : Int).toNat
          omega
        · simp only [Bool.not_false, coreS, Value.cells, Value.oneCell', Nat.reduceAdd, Nat.reduceSub, Nat.reduceMul, Nat.reduceLeDiff, Int.reduceEq, Nat.reduceEqDiff, scopeK_normal, scopeK_ret, scopeK_exit, callV_yield, binds_cons, binds_nil, M17Fs120]
          exact .inr hE
  · obtain rfl : k = n := by omega
    have hlt : ¬ ((k : Int) < (k : Int)) := by omega
    simp only [he, hlt, decide_false, coreS, Value.cells, Value.oneCell', Nat.reduceAdd, Nat.reduceSub, Nat.reduceMul, Nat.reduceLeDiff, Int.reduceEq, Nat.reduceEqDiff, scopeK_normal, scopeK_ret, scopeK_exit, callV_yield, binds_cons, binds_nil, M17Fs120]
    rw [elen]
    exact .inl hJ
theorem near_seq {b1 b2 g b S M : Nat} {a : Option Addr} {n c : Nat} {ws : List Wn} {i : Nat} (hn : n = ws.length) (V : Vb S M ws) (hi : i < ws.length) :
    SeqOf Try.prog (.func (.func 120) #[] #[.pointer (some ⟨b1, 0, none⟩), .pointer (some ⟨b2, 0, none⟩)]) (fun h' => Row h' a (wsV ws) ∧ DeskB h' g b S M a n c ∧ h'[b1]? = some (.cells #[.pointer (some ⟨g, 0, none⟩)] 64) ∧ h'[b2]? = some (.cells #[.int .i64 (i : Int)] 3)) (nrX (nrL ws i n)) :=
  ⟨120, _, _, rfl, fun lo h0 J E hx hJ step => near120 lo b1 b2 g b S M a n c ws i h0 hn V hi J E hx hJ step⟩
/-- The wants of two days. -/
theorem of95 (p1 p2 p3 n : Nat) (b : Option Addr) (k : Nat) (days : List Int) (w d : Nat) (i : Nat) (h : Eng.Heap) (h1 : h[p1]? = some (.cells #[.slice b n k] 25)) (h2 : h[p2]? = some (.cells #[.int .i64 (d : Nat)] 3)) (h3 : h[p3]? = some (.cells #[.int .i64 (w : Nat)] 3)) (hd : IntsV h b n days) (hi : i < n) (hw : w < n) :
    CallsH Try.prog 95 (#[] ++ #[.int .i64 i] ++ #[.pointer (some ⟨p1, 0, none⟩), .pointer (some ⟨p2, 0, none⟩), .pointer (some ⟨p3, 0, none⟩)]) h (fun v h' => v = .bool (decide (days.getD i 0 = (d : Nat)) || decide (days.getD i 0 = days.getD w 0)) ∧ h' = h) := by
  simp only [Array.append_empty, Array.empty_append, List.append_toArray, List.cons_append, List.nil_append]
  have hl := hd.len
  have c1 := hd.cell (j := i) (by omega)
  have c2 := hd.cell (j := w) (by omega)
  have sb := hd.isSome (by omega)
  (refine CallsH_of_exec Try.func95 rfl bod95 ?_; simp only [Try.ntmps95, Try.results95, coreS, stK_some, splice, Value.cells, Value.oneCell', Nat.reduceAdd, Nat.reduceSub, Nat.reduceMul, Nat.reduceLeDiff, Int.reduceEq, Nat.reduceEqDiff, M17Fs95])
  refine WP_draw (by kernel_rfl) sta_eq [(0, 0), (1, 0), (2, 0), (3, 0), (4, 0), (5, 0), (6, 0), (7, 0), (8, 0), (9, 0), (10, 0), (11, 0), (12, 0), (13, 0), (14, 0), (15, 0), (16, 0), (17, 0)] (by kernel_rfl) rfl (by kernel_rfl) ?_
  by_cases hc : days.getD i 0 = (d : Nat)
  · simp only [h1, h2, h3, c1, c2, hc, decide_true, Int.toNat_natCast, hvK_eq, coreS, Value.cells, Value.oneCell', Nat.reduceAdd, Nat.reduceSub, Nat.reduceMul, Nat.reduceLeDiff, Int.reduceEq, Nat.reduceEqDiff, drawS, M17Fs95]
    refine ⟨⟨by omega, by omega⟩, sb, ?_⟩
    simp
  · simp only [h1, h2, h3, c1, c2, hc, decide_false, Int.toNat_natCast, hvK_eq, coreS, Value.cells, Value.oneCell', Nat.reduceAdd, Nat.reduceSub, Nat.reduceMul, Nat.reduceLeDiff, Int.reduceEq, Nat.reduceEqDiff, drawS, M17Fs95]
    refine ⟨⟨by omega, by omega⟩, sb, ⟨by omega, by omega⟩, sb, ⟨by omega, by omega⟩, sb, ?_⟩
    simp
end Go.Proofs.Ytmgkeeefbfefgaa
