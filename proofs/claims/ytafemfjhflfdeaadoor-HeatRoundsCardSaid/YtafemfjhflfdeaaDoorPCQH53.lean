/- Walks: the document's Back. -/
import Derived.Test.YtafemfjhflfdeaaDoorPCQH52
namespace Go.Proofs.YtafemfjhflfdeaaDoor
open Go Go.Proofs Go.Eng Go.Run Tab
set_option maxRecDepth 100000
set_option linter.unusedSimpArgs false
set_option linter.unusedVariables false
set_option linter.defProp false
set_option maxHeartbeats 16000000
set_option linter.defProp false
def H53Fs98 := (And.intro (And.intro (And.intro @agg22 (And.intro @agg24 @agg3)) (And.intro (And.intro @by3 @fo24_0) (And.intro @fo24_1 @inf22))) (And.intro (And.intro @inf24 (And.intro @inf3 @sz22)) (And.intro (And.intro @sz24 @sz3) (And.intro @zero3 @Tryd.underlying22))))
theorem back98 (m : MV) (gd : m.Good) (hn1 : 1 ≤ m.casts.length) (hn16 : m.casts.length ≤ 16) (j : Nat) (hj : j < m.casts.length) (cs : Nat) (hcs : cs ≤ 20) (h : Eng.Heap) (hm : m.ok h) :
    CallsH Tryd.prog 98 #[m.val, .int .i64 (j : Int), .int .i64 cs] h (fun v h' => v = .int .i64 (wE ((m.ov.bk j cs).getD j 0)) ∧ Ext h h') := by
  obtain ⟨n, hn⟩ : ∃ n, m.casts.length = n := ⟨_, rfl⟩
  have hwl := gd.wl
  have hc := hm.c
  have hw := hm.w
  have gc := gd.c
  have gw := gd.w
  have hok := gd.ok
  have hnn : m.ov.n = n := hn
  have hval : Value.agg #[.slice m.a n m.ca, .slice m.b m.waits.length m.cb, .int .i64 m.lo, .int .i64 m.hi] = m.val := by rw [← hn]
  have canV : ∀ x : Nat, (decide (m.lo ≤ (x : Int)) && decide ((x : Int) ≤ m.hi)) = m.ov.can (x, x) := fun x => by rw [OV.can, gd.lo, gd.hi]; simp only [Int.ofNat_le]
  rw [hn] at hwl gc gw hn1 hn16 hj
  (refine CallsH_of_exec Tryd.func98 rfl bod98 ?_; simp only [Tryd.ntmps98, Tryd.results98, coreS, stK_some, splice, Value.cells, Value.oneCell', Nat.reduceAdd, Nat.reduceSub, Nat.reduceMul, Nat.reduceLeDiff, Int.reduceEq, Nat.reduceEqDiff, H53Fs98])
  simp only [hn, push_get, push_size, if_true, if_false, splice, coreS, Value.cells, Value.oneCell', Nat.reduceAdd, Nat.reduceSub, Nat.reduceMul, Nat.reduceLeDiff, Int.reduceEq, Nat.reduceEqDiff, H53Fs98]
  repeat (refine And.intro (by first | omega | (rw [inK_i64]; omega) | rfl | assumption | decide) ?_)
  have hp0 := pn0 (h := h) (o := .cells #[.slice m.a n m.ca, .slice m.b m.waits.length m.cb, .int .i64 m.lo, .int .i64 m.hi] 24) (o' := .cells (ints (List.replicate n 0)).toArray 3)
  have hp1 := pn1 (h := h) (o := .cells #[.slice m.a n m.ca, .slice m.b m.waits.length m.cb, .int .i64 m.lo, .int .i64 m.hi] 24) (o' := .cells (ints (List.replicate n 0)).toArray 3)
  have y0 : Ext h ((h.push (.cells #[.slice m.a n m.ca, .slice m.b m.waits.length m.cb, .int .i64 m.lo, .int .i64 m.hi] 24)).push (.cells (ints (List.replicate n 0)).toArray 3)) := ((Ext.refl h).push _).push _
  have ez : ints (List.replicate n 0) = List.replicate n (.int .i64 0) := by simp [ints]
  rw [ez] at hp0 hp1 y0
  have hi0 : ints (List.replicate 0 (-1) ++ List.replicate (n - 0) 0) = List.replicate n (.int .i64 0) := by simp [ints]
  refine WP_loopI [9, 22, 23, 24, 25, 26, 27, 28, 29] (fun g h' => ∃ x : Nat, x ≤ n ∧ g 9 = .int .i64 x ∧ Ext h h' ∧ h.size + 1 < h'.size ∧
      h'[h.size + 1]? = some (.cells (ints (List.replicate x (-1) ++ List.replicate (n - x) 0)).toArray 3) ∧ h'[h.size]? = some (.cells #[.slice m.a n m.ca, .slice m.b m.waits.length m.cb, .int .i64 m.lo, .int .i64 m.hi] 24)) (fun g _ => match g 9 with | .int _ q => n - q.toNat | _ => 0) ?_ ?_
  · refine ⟨0, by omega, rfl, ?_, ?_, ?_, ?_⟩
    · first | exact y0 | simpa using y0
    · simp
    · rw [hi0]; first | exact hp1 | simpa using hp1
    · first | exact hp0 | simpa using hp0
  rintro g h1 ⟨x, hxn, hg9, y1, hz1, hv1, hb1⟩
  by_cases hx : x < n
  case pos =>
    have l0 : (x : Int) < (n : Int) := by omega
    have hrep : List.replicate (n - x) (0 : Int) = 0 :: List.replicate (n - (x + 1)) 0 := by
      rw [show n - x = (n - (x + 1)) + 1 by omega, List.replicate_succ]
    rw [hrep] at hv1
    simp only [hg9, l0, hv1, Int.toNat_natCast, decide_true, splice, coreS, Value.cells, Value.oneCell', Nat.reduceAdd, Nat.reduceSub, Nat.reduceMul, Nat.reduceLeDiff, Int.reduceEq, Nat.reduceEqDiff, H53Fs98]
    repeat (refine And.intro (by first | omega | (rw [inK_i64]; omega) | rfl | assumption | decide) ?_)
    refine stK_int hv1 (by simp) fun h2 hb2 hu2 => ?_
    rw [fill_set] at hb2
    simp only [splice, coreS, Value.cells, Value.oneCell', Nat.reduceAdd, Nat.reduceSub, Nat.reduceMul, Nat.reduceLeDiff, Int.reduceEq, Nat.reduceEqDiff, H53Fs98]
    refine ⟨by rw [inK_i64]; omega, roundK_mk (by kernel_rfl) ⟨x + 1, by omega, rfl, hu2.ext y1 (by omega), by rw [hu2.size]; exact hz1, hb2, hu2.get hb1 (by omega)⟩ ?_⟩
    show n - ((x : Int) + 1).toNat < n - (x : Int).toNat
    omega
  obtain rfl : x = n := by omega
  have l0 : ¬ ((x : Int) < (x : Int)) := by omega
  rw [Nat.sub_self, List.replicate_zero, List.append_nil] at hv1
  simp only [hg9, l0, hv1, Int.toNat_natCast, decide_false, splice, coreS, Value.cells, Value.oneCell', Nat.reduceAdd, Nat.reduceSub, Nat.reduceMul, Nat.reduceLeDiff, Int.reduceEq, Nat.reduceEqDiff, H53Fs98]
  repeat (refine And.intro (by first | omega | (rw [inK_i64]; omega) | rfl | assumption | decide) ?_)
  refine stK_int hv1 (by simpa using hj) fun h2 hb2 hu2 => ?_
  have hst0 : (List.replicate x (-1 : Int)).set j 0 = wV (m.ov.st j) := by rw [← hnn]; exact wV_st m.ov j
  rw [hst0] at hb2
  have y2 := hu2.ext y1 (by omega)
  have hb2m := hu2.get hb1 (by omega)
  have hz2 : h.size + 1 < h2.size := by rw [hu2.size]; exact hz1
  clear hb1 hv1 hu2 y1 hz1 hp0 hp1 y0 hi0 ez
  simp only [splice, coreS, Value.cells, Value.oneCell', Nat.reduceAdd, Nat.reduceSub, Nat.reduceMul, Nat.reduceLeDiff, Int.reduceEq, Nat.reduceEqDiff, H53Fs98]
  obtain ⟨n, hxn'⟩ : ∃ n, x = n := ⟨_, rfl⟩
  subst hxn'
  refine WP_loopI [8, 10, 11, 12, 13, 14, 15, 16, 33, 34, 35, 36, 37, 38, 39, 40, 41, 42, 43, 44, 45, 46, 47, 48, 49, 50, 51, 52, 53, 54, 55, 56, 57, 58, 59, 60, 61, 62, 63, 64, 65, 66, 67, 68, 69, 70, 71, 72, 73, 74, 75, 76, 77, 78, 79, 80, 81, 82, 83, 84, 85, 86, 87, 88, 89, 90, 91, 92, 93, 94, 95, 96, 97, 98, 99, 100, 101, 102, 103, 104, 105, 106, 107, 108, 109, 110, 111, 112, 113, 114, 115, 116, 117, 118, 119, 120, 121, 122, 123, 124, 125, 126, 127, 128, 129, 130, 131, 132, 133, 134, 135, 136, 137, 138, 139, 140, 141, 142, 143, 144] (fun g h' => ∃ k bo : Nat, k ≤ cs ∧ g 10 = .int .i64 k ∧ g 8 = .slice (some ⟨bo, 0, none⟩) x x ∧ h'[bo]? = some (.cells (ints (wV (pre m.ov j k))).toArray 3) ∧ h.size < bo ∧ Ext h h' ∧ h'[h.size]? = some (.cells #[.slice m.a x m.ca, .slice m.b m.waits.length m.cb, .int .i64 m.lo, .int .i64 m.hi] 24)) (fun g _ => match g 10 with | .int _ q => cs + 1 - q.toNat | _ => 0) ⟨0, h.size + 1, by omega, rfl, rfl, hb2, by omega, y2, hb2m⟩ ?_
  clear hb2 y2 hb2m hz2
  rintro g3 h3 ⟨k, bo, hk, hg10, hg8, hbo, hlt, y3, hb3⟩
  have l1 : (k : Int) ≤ (cs : Int) := by omega
  have hlen := pre_length m.ov j k
  simp only [hg10, hg8, l1, decide_true, splice, coreS, Value.cells, Value.oneCell', Nat.reduceAdd, Nat.reduceSub, Nat.reduceMul, Nat.reduceLeDiff, Int.reduceEq, Nat.reduceEqDiff, H53Fs98]
  repeat (refine And.intro (by first | omega | (rw [inK_i64]; omega) | rfl | assumption | decide) ?_)
  refine WP_loopI [11, 12, 40, 41, 42, 43, 44, 45, 46, 47, 48, 49, 50, 51, 52, 53, 54, 55, 56, 57, 58, 59, 60, 61, 62, 63, 64, 65, 66, 67, 68, 69, 70, 71, 72, 73, 74, 75, 76, 77, 78, 79, 80, 81, 82, 83, 84, 85] (fun g h' => ∃ t : Nat, t ≤ x ∧ g 11 = .int .i64 ((x : Int) - 1 - t) ∧ h'[bo]? = some (.cells (ints (wV (dn m.ov (pre m.ov j k) t))).toArray 3) ∧ Ext h h' ∧ h'[h.size]? = some (.cells #[.slice m.a x m.ca, .slice m.b m.waits.length m.cb, .int .i64 m.lo, .int .i64 m.hi] 24)) (fun g _ => match g 11 with | .int _ q => (q + 1).toNat | _ => 0) ⟨0, by omega, by show Value.int _ _ = Value.int _ _; congr 1; omega, hbo, y3, hb3⟩ ?_
  rintro g4 h4 ⟨t, htn, hg11, hv4, y4, hb4⟩
  have hzb := lt_of_get hv4
  by_cases ht : t < x
  case pos =>
    obtain ⟨q, hq⟩ : ∃ q, x - 1 - t = q := ⟨_, rfl⟩
    have eq : (x : Int) - 1 - t = (q : Int) := by omega
    have hqn : q < x := by omega
    have hqno : q < m.ov.n := by omega
    rw [eq] at hg11
    have hsucc := dn_succ m.ov (pre m.ov j k) (t := t) (by omega)
    rw [hnn, hq] at hsucc
    have hbd := dn_bd hok (j := j) (k := k) (t := t) (by omega) (by omega) (by omega)
    have hdl := dn_length m.ov (pre m.ov j k) t
    rw [hlen, hnn] at hdl
    obtain ⟨v, hv⟩ : ∃ v, dn m.ov (pre m.ov j k) t = v := ⟨_, rfl⟩
    rw [hv] at hsucc hbd hdl hv4
    have hwq : m.ov.w q ≤ q := hok.wg q hqno
    have c1 := wV_at v (i := q) (by omega)
    have c2 := wV_at v (i := m.ov.w q) (by omega)
    have b1 := hbd q hqno
    have b2 := hbd (m.ov.w q) (by omega)
    have cw := (hw.ext y4).cell (j := q) (by omega)
    rw [gw q hqn] at cw
    have sw := (hw.ext y4).isSome (by omega)
    have hfar := OV.far_eq
    have mlt : ((q : Int) - 1 + 1).toNat < ((q : Int) + 1).toNat := by omega
    have eq2 : (q : Int) - 1 = (x : Int) - 1 - ((t + 1 : Nat) : Int) := by omega
    have g0 : (0 : Int) ≤ (q : Int) := by omega
    have hz : ∀ {h5 : Eng.Heap} {v5 : List Nat}, h5[bo]? = some (.cells (ints (wV v5)).toArray 3) → v5 = dn m.ov (pre m.ov j k) (t + 1) → h5[bo]? = some (.cells (ints (wV (dn m.ov (pre m.ov j k) (t + 1)))).toArray 3) := fun h e => by rw [← e]; exact h
    simp only [hg11, g0, hb4, cw, Int.toNat_natCast, decide_true, splice, coreS, Value.cells, Value.oneCell', Nat.reduceAdd, Nat.reduceSub, Nat.reduceMul, Nat.reduceLeDiff, Int.reduceEq, Nat.reduceEqDiff, H53Fs98]
    repeat (refine And.intro (by first | omega | (rw [inK_i64]; omega) | rfl | assumption | decide) ?_)
    refine WP_draw (by kernel_rfl) sta_eq [(0, 0), (1, 0), (2, 0), (3, 0), (4, 0), (5, 0), (6, 0), (7, 0), (8, 0), (9, 0), (10, 0), (11, 0), (12, 0), (13, 0), (14, 0), (15, 0), (16, 0), (17, 0), (18, 0), (19, 0), (20, 0), (21, 0), (22, 0), (23, 0), (24, 0), (25, 0), (26, 0), (27, 0), (28, 0)] (by kernel_rfl) rfl (by kernel_rfl) ?_
    by_cases d1 : v.getD q 0 < OV.far
    case neg =>
      have e1 : ¬ (0 : Int) ≤ wE (v.getD q 0) := by have := wE_neg.2 d1; omega
      have es : v = dn m.ov (pre m.ov j k) (t + 1) := by rw [hsucc, rel_same (by omega) (by omega)]
      simp only [hv4, c1, e1, gq_none, Int.toNat_natCast, decide_false, splice, coreS, Value.cells, Value.oneCell', Nat.reduceAdd, Nat.reduceSub, Nat.reduceMul, Nat.reduceLeDiff, Int.reduceEq, Nat.reduceEqDiff, drawS, H53Fs98]
      repeat (refine And.intro (by first | omega | (rw [inK_i64]; omega) | rfl | assumption | decide) ?_)
      try simp only [hvK_eq, splice, coreS, Value.cells, Value.oneCell', Nat.reduceAdd, Nat.reduceSub, Nat.reduceMul, Nat.reduceLeDiff, Int.reduceEq, Nat.reduceEqDiff, drawS, H53Fs98]
      repeat (refine And.intro (by first | omega | (rw [inK_i64]; omega) | rfl | assumption | decide) ?_)
      exact roundK_mk (by kernel_rfl) ⟨t + 1, by omega, by show Value.int _ _ = _; rw [eq2], hz hv4 es, y4, hb4⟩ mlt
    have w1 : wE (v.getD q 0) = (v.getD q 0 : Nat) := wE_lt d1
    have e1 : (0 : Int) ≤ ((v.getD q 0 : Nat) : Int) := by omega
    rw [w1] at c1
    by_cases d2 : m.ov.w q < q
    case neg =>
      have e2 : ¬ (m.ov.w q : Int) < (q : Int) := by omega
      have es : v = dn m.ov (pre m.ov j k) (t + 1) := by rw [hsucc, rel_same (by omega) (by rw [show m.ov.w q = q by omega]; omega)]
      simp only [hv4, c1, e1, e2, gq_none, Int.toNat_natCast, decide_true, decide_false, splice, coreS, Value.cells, Value.oneCell', Nat.reduceAdd, Nat.reduceSub, Nat.reduceMul, Nat.reduceLeDiff, Int.reduceEq, Nat.reduceEqDiff, drawS, H53Fs98]
      repeat (refine And.intro (by first | omega | (rw [inK_i64]; omega) | rfl | assumption | decide) ?_)
      try simp only [hvK_eq, splice, coreS, Value.cells, Value.oneCell', Nat.reduceAdd, Nat.reduceSub, Nat.reduceMul, Nat.reduceLeDiff, Int.reduceEq, Nat.reduceEqDiff, drawS, H53Fs98]
      repeat (refine And.intro (by first | omega | (rw [inK_i64]; omega) | rfl | assumption | decide) ?_)
      exact roundK_mk (by kernel_rfl) ⟨t + 1, by omega, by show Value.int _ _ = _; rw [eq2], hz hv4 es, y4, hb4⟩ mlt
    have e2 : (m.ov.w q : Int) < (q : Int) := by omega
    have hset : ∀ {h5 : Eng.Heap}, h5[bo]? = some (.cells (ints ((wV v).set (m.ov.w q) (((v.getD q 0 : Nat) : Int) + 1))).toArray 3) → v.getD q 0 + 1 ≤ v.getD (m.ov.w q) 0 → h5[bo]? = some (.cells (ints (wV (dn m.ov (pre m.ov j k) (t + 1)))).toArray 3) := fun h hle => by
      rw [hsucc, rel_new hle, ← wV_set, wE_lt (by omega)]
      exact h
    by_cases d3 : v.getD (m.ov.w q) 0 < OV.far
    · have w2 : wE (v.getD (m.ov.w q) 0) = (v.getD (m.ov.w q) 0 : Nat) := wE_lt d3
      rw [w2] at c2
      have e3 : ¬ ((v.getD (m.ov.w q) 0 : Nat) : Int) < 0 := by omega
      by_cases d4 : v.getD q 0 + 1 < v.getD (m.ov.w q) 0
      · have e4 : ((v.getD q 0 : Nat) : Int) + 1 < ((v.getD (m.ov.w q) 0 : Nat) : Int) := by omega
        simp only [hv4, c1, c2, e1, e2, e3, e4, gq_none, Int.toNat_natCast, decide_true, decide_false, splice, coreS, Value.cells, Value.oneCell', Nat.reduceAdd, Nat.reduceSub, Nat.reduceMul, Nat.reduceLeDiff, Int.reduceEq, Nat.reduceEqDiff, drawS, H53Fs98]
        repeat (refine And.intro (by first | omega | (rw [inK_i64]; omega) | rfl | assumption | decide) ?_)
        try simp only [hvK_eq, hv4, c1, c2, Int.toNat_natCast, splice, coreS, Value.cells, Value.oneCell', Nat.reduceAdd, Nat.reduceSub, Nat.reduceMul, Nat.reduceLeDiff, Int.reduceEq, Nat.reduceEqDiff, drawS, H53Fs98]
        repeat (refine And.intro (by first | omega | (rw [inK_i64]; omega) | rfl | assumption | decide) ?_)
        refine stK_int hv4 (by rw [wV_length]; omega) fun h5 hb5 hu5 => ?_
        simp only [splice, coreS, Value.cells, Value.oneCell', Nat.reduceAdd, Nat.reduceSub, Nat.reduceMul, Nat.reduceLeDiff, Int.reduceEq, Nat.reduceEqDiff, H53Fs98]
        repeat (refine And.intro (by first | omega | (rw [inK_i64]; omega) | rfl | assumption | decide) ?_)
        exact roundK_mk (by kernel_rfl) ⟨t + 1, by omega, by show Value.int _ _ = _; rw [eq2], hset hb5 (by omega), hu5.ext y4 (by omega), hu5.get hb4 (by omega)⟩ mlt
      · have e4 : ¬ ((v.getD q 0 : Nat) : Int) + 1 < ((v.getD (m.ov.w q) 0 : Nat) : Int) := by omega
        have es : v = dn m.ov (pre m.ov j k) (t + 1) := by rw [hsucc, rel_same (by omega) (by omega)]
        simp only [hv4, c1, c2, e1, e2, e3, e4, gq_none, Int.toNat_natCast, decide_true, decide_false, splice, coreS, Value.cells, Value.oneCell', Nat.reduceAdd, Nat.reduceSub, Nat.reduceMul, Nat.reduceLeDiff, Int.reduceEq, Nat.reduceEqDiff, drawS, H53Fs98]
        repeat (refine And.intro (by first | omega | (rw [inK_i64]; omega) | rfl | assumption | decide) ?_)
        try simp only [hvK_eq, splice, coreS, Value.cells, Value.oneCell', Nat.reduceAdd, Nat.reduceSub, Nat.reduceMul, Nat.reduceLeDiff, Int.reduceEq, Nat.reduceEqDiff, drawS, H53Fs98]
        repeat (refine And.intro (by first | omega | (rw [inK_i64]; omega) | rfl | assumption | decide) ?_)
        exact roundK_mk (by kernel_rfl) ⟨t + 1, by omega, by show Value.int _ _ = _; rw [eq2], hz hv4 es, y4, hb4⟩ mlt
    · have e3 : wE (v.getD (m.ov.w q) 0) < 0 := wE_neg.2 d3
      simp only [hv4, c1, c2, e1, e2, e3, gq_none, Int.toNat_natCast, decide_true, decide_false, splice, coreS, Value.cells, Value.oneCell', Nat.reduceAdd, Nat.reduceSub, Nat.reduceMul, Nat.reduceLeDiff, Int.reduceEq, Nat.reduceEqDiff, drawS, H53Fs98]
      repeat (refine And.intro (by first | omega | (rw [inK_i64]; omega) | rfl | assumption | decide) ?_)
      try simp only [hvK_eq, hv4, c1, c2, Int.toNat_natCast, splice, coreS, Value.cells, Value.oneCell', Nat.reduceAdd, Nat.reduceSub, Nat.reduceMul, Nat.reduceLeDiff, Int.reduceEq, Nat.reduceEqDiff, drawS, H53Fs98]
      repeat (refine And.intro (by first | omega | (rw [inK_i64]; omega) | rfl | assumption | decide) ?_)
      refine stK_int hv4 (by rw [wV_length]; omega) fun h5 hb5 hu5 => ?_
      simp only [splice, coreS, Value.cells, Value.oneCell', Nat.reduceAdd, Nat.reduceSub, Nat.reduceMul, Nat.reduceLeDiff, Int.reduceEq, Nat.reduceEqDiff, H53Fs98]
      repeat (refine And.intro (by first | omega | (rw [inK_i64]; omega) | rfl | assumption | decide) ?_)
      exact roundK_mk (by kernel_rfl) ⟨t + 1, by omega, by show Value.int _ _ = _; rw [eq2], hset hb5 (by omega), hu5.ext y4 (by omega), hu5.get hb4 (by omega)⟩ mlt
  obtain rfl : t = x := by omega
  have g0 : ¬ (0 : Int) ≤ (t : Int) - 1 - (t : Int) := by omega
  have hall : dn m.ov (pre m.ov j k) t = m.ov.bk j k := by rw [← hnn, dn_all, ← bk_pre]
  rw [hall] at hv4
  have hbl := OV.bk_length (o := m.ov) j k
  rw [hnn] at hbl
  by_cases hkc : k = cs
  case pos =>
    subst hkc
    have c0 := wV_at (m.ov.bk j k) (i := j) (by omega)
    simp only [hg11, g0, hv4, c0, Int.toNat_natCast, decide_true, decide_false, splice, coreS, Value.cells, Value.oneCell', Nat.reduceAdd, Nat.reduceSub, Nat.reduceMul, Nat.reduceLeDiff, Int.reduceEq, Nat.reduceEqDiff, H53Fs98]
    repeat (refine And.intro (by first | omega | (rw [inK_i64]; omega) | rfl | assumption | decide) ?_)
    first | exact y4 | exact ⟨rfl, y4⟩
  have hkc2 : ¬ ((k : Int) = (cs : Int)) := by omega
  simp only [hg11, g0, hkc2, decide_false, splice, coreS, Value.cells, Value.oneCell', Nat.reduceAdd, Nat.reduceSub, Nat.reduceMul, Nat.reduceLeDiff, Int.reduceEq, Nat.reduceEqDiff, H53Fs98]
  repeat (refine And.intro (by first | omega | (rw [inK_i64]; omega) | rfl | assumption | decide) ?_)
  have hkcs : k < cs := by omega
  obtain ⟨V, hV⟩ : ∃ V, m.ov.bk j k = V := ⟨_, rfl⟩
  have hpre : pre m.ov j (k + 1) = m.ov.cst V := by rw [← hV]; rfl
  have hbd := OV.bk_bd hok (j := j) (by omega) k (by omega)
  have hbe : (k + 1) * m.ov.n ≤ 21 * 16 := Nat.mul_le_mul (by omega) (by omega)
  replace hbd := hbd.mono (u := 700) (by omega)
  rw [hV] at hv4 hbl hbd
  clear hall hlen hbo hb3 y3
  have hfar := OV.far_eq
  have pb := push_old (o := .cells (ints (List.replicate t 0)).toArray 3) hb4
  have pv := push_old (o := .cells (ints (List.replicate t 0)).toArray 3) hv4
  have pn := push_new (h := h4) (o := .cells (ints (List.replicate t 0)).toArray 3)
  have yp := y4.push (.cells (ints (List.replicate t 0)).toArray 3)
  have ez : ints (List.replicate t 0) = List.replicate t (.int .i64 0) := by simp [ints]
  rw [ez] at pb pv pn yp
  have hi0 : ints (List.replicate 0 (-1) ++ List.replicate (t - 0) 0) = List.replicate t (.int .i64 0) := by simp [ints]
  have hzh := lt_of_get hb4
  refine WP_loopI [14, 91, 92, 93, 94, 95, 96, 97, 98] (fun g h' => ∃ y : Nat, y ≤ t ∧ g 14 = .int .i64 y ∧ Ext h h' ∧ h4.size < h'.size ∧
      h'[h4.size]? = some (.cells (ints (List.replicate y (-1) ++ List.replicate (t - y) 0)).toArray 3) ∧ h'[bo]? = some (.cells (ints (wV V)).toArray 3) ∧ h'[h.size]? = some (.cells #[.slice m.a t m.ca, .slice m.b m.waits.length m.cb, .int .i64 m.lo, .int .i64 m.hi] 24)) (fun g _ => match g 14 with | .int _ q => t - q.toNat | _ => 0) ?_ ?_
  · refine ⟨0, by omega, rfl, ?_, ?_, ?_, ?_, ?_⟩
    · first | exact yp | simpa using yp
    · simp
    · rw [hi0]; first | exact pn | simp
    · first | exact pv | simpa using pv
    · first | exact pb | simpa using pb
  rintro g5 h5 ⟨y, hyn, hg14, y5, hz5, hn5, ho5, hb5⟩
  by_cases hy : y < t
  case pos =>
    have l2 : (y : Int) < (t : Int) := by omega
    have hrep : List.replicate (t - y) (0 : Int) = 0 :: List.replicate (t - (y + 1)) 0 := by
      rw [show t - y = (t - (y + 1)) + 1 by omega, List.replicate_succ]
    rw [hrep] at hn5
    simp only [hg14, l2, hn5, Int.toNat_natCast, decide_true, splice, coreS, Value.cells, Value.oneCell', Nat.reduceAdd, Nat.reduceSub, Nat.reduceMul, Nat.reduceLeDiff, Int.reduceEq, Nat.reduceEqDiff, H53Fs98]
    repeat (refine And.intro (by first | omega | (rw [inK_i64]; omega) | rfl | assumption | decide) ?_)
    refine stK_int hn5 (by simp) fun h6 hb6 hu6 => ?_
    rw [fill_set] at hb6
    simp only [splice, coreS, Value.cells, Value.oneCell', Nat.reduceAdd, Nat.reduceSub, Nat.reduceMul, Nat.reduceLeDiff, Int.reduceEq, Nat.reduceEqDiff, H53Fs98]
    refine ⟨by rw [inK_i64]; omega, roundK_mk (by kernel_rfl) ⟨y + 1, by omega, rfl, hu6.ext y5 (by omega), by rw [hu6.size]; exact hz5, hb6, hu6.get ho5 (by omega), hu6.get hb5 (by omega)⟩ ?_⟩
    show t - ((y : Int) + 1).toNat < t - (y : Int).toNat
    omega
  have l2 : ¬ ((y : Int) < (t : Int)) := by omega
  obtain rfl : y = t := by omega
  rw [Nat.sub_self, List.replicate_zero, List.append_nil] at hn5
  have hcs0 : List.replicate y (-1 : Int) = wV (m.ov.cstK V 0) := by rw [← hnn, wV_far]; rfl
  rw [hcs0] at hn5
  simp only [hg14, l2, decide_false, splice, coreS, Value.cells, Value.oneCell', Nat.reduceAdd, Nat.reduceSub, Nat.reduceMul, Nat.reduceLeDiff, Int.reduceEq, Nat.reduceEqDiff, H53Fs98]
  refine WP_loopI [15, 16, 99, 100, 101, 102, 103, 104, 105, 106, 107, 108, 109, 110, 111, 112, 113, 114, 115, 116, 117, 118, 119, 120, 121, 122, 123, 124, 125, 126, 127, 128, 129, 130, 131, 132, 133, 134, 135, 136, 137, 138, 139, 140, 141, 142, 143] (fun g h' => ∃ z : Nat, z ≤ y ∧ g 15 = .int .i64 z ∧ Ext h h' ∧ h4.size < h'.size ∧
      h'[h4.size]? = some (.cells (ints (wV (m.ov.cstK V z))).toArray 3) ∧ h'[bo]? = some (.cells (ints (wV V)).toArray 3) ∧ h'[h.size]? = some (.cells #[.slice m.a y m.ca, .slice m.b m.waits.length m.cb, .int .i64 m.lo, .int .i64 m.hi] 24)) (fun g _ => match g 15 with | .int _ q => y - q.toNat | _ => 0) ⟨0, by omega, rfl, y5, hz5, hn5, ho5, hb5⟩ ?_
  clear hn5 ho5 hb5 y5 hz5
  rintro g6 h6 ⟨z, hzn, hg15, y6, hz6, hn6, ho6, hb6⟩
  by_cases hz : z < y
  case neg =>
    have l3 : ¬ ((z : Int) < (y : Int)) := by omega
    obtain rfl : z = y := by omega
    simp only [hg15, l3, decide_false, splice, coreS, Value.cells, Value.oneCell', Nat.reduceAdd, Nat.reduceSub, Nat.reduceMul, Nat.reduceLeDiff, Int.reduceEq, Nat.reduceEqDiff, H53Fs98]
    have hn7 : h6[h4.size]? = some (.cells (ints (wV (pre m.ov j (k + 1)))).toArray 3) := by
      rw [hpre, OV.cst, hnn]; exact hn6
    refine ⟨by rw [inK_i64]; omega, roundK_mk (by kernel_rfl) ⟨k + 1, h4.size, by omega, rfl, rfl, hn7, by omega, y6, hb6⟩ ?_⟩
    show cs + 1 - ((k : Int) + 1).toNat < cs + 1 - (k : Int).toNat
    omega
  have l3 : (z : Int) < (y : Int) := by omega
  have hzno : z < m.ov.n := by omega
  have hcz : m.ov.c z < m.ov.n := hok.cl z hzno
  have hsucc := OV.cstK_succ (o := m.ov) V z
  have hnl := OV.cstK_length (o := m.ov) V z
  have hnb := OV.Bd.cstK hok hbd z (by omega)
  obtain ⟨nx, hnx⟩ : ∃ nx, m.ov.cstK V z = nx := ⟨_, rfl⟩
  rw [hnx] at hsucc hnl hnb hn6
  have c1 := wV_at V (i := z) (by omega)
  have c2 := wV_at nx (i := m.ov.c z) (by omega)
  have b1 := hbd z hzno
  have b2 := hnb (m.ov.c z) hcz
  have cc := (hc.ext y6).cell (j := z) (by omega)
  rw [gc z hz] at cc
  have sc := (hc.ext y6).isSome (by omega)
  have mlt : y - ((z : Int) + 1).toNat < y - (z : Int).toNat := by omega
  have hsame : ∀ {h7 : Eng.Heap}, Ext h6 h7 → nx = m.ov.cstK V (z + 1) → (Ext h h7 ∧ h4.size < h7.size ∧ h7[h4.size]? = some (.cells (ints (wV (m.ov.cstK V (z + 1)))).toArray 3) ∧ h7[bo]? = some (.cells (ints (wV V)).toArray 3) ∧ h7[h.size]? = some (.cells #[.slice m.a y m.ca, .slice m.b m.waits.length m.cb, .int .i64 m.lo, .int .i64 m.hi] 24)) := fun x e => ⟨y6.trans x, Nat.lt_of_lt_of_le hz6 x.size, by rw [← e]; exact x.get hn6, x.get ho6, x.get hb6⟩
  have hset : ∀ {h7 h8 : Eng.Heap}, Ext h6 h7 → Upd h7 h8 h4.size → h8[h4.size]? = some (.cells (ints ((wV nx).set (m.ov.c z) ((V.getD z 0 : Nat) : Int))).toArray 3) → m.ov.can (z, z) = true → V.getD z 0 < OV.far → V.getD z 0 ≤ nx.getD (m.ov.c z) 0 → (Ext h h8 ∧ h4.size < h8.size ∧ h8[h4.size]? = some (.cells (ints (wV (m.ov.cstK V (z + 1)))).toArray 3) ∧ h8[bo]? = some (.cells (ints (wV V)).toArray 3) ∧ h8[h.size]? = some (.cells #[.slice m.a y m.ca, .slice m.b m.waits.length m.cb, .int .i64 m.lo, .int .i64 m.hi] 24)) := fun x u hb hca hlt2 hle => by
    refine ⟨u.ext (y6.trans x) (by omega), by rw [u.size]; exact Nat.lt_of_lt_of_le hz6 x.size, ?_, u.get (x.get ho6) (by omega), u.get (x.get hb6) (by omega)⟩
    rw [hsucc, cs1_new hca hle, ← wV_set, wE_lt hlt2]
    exact hb
  simp only [hg15, l3, hb6, cc, Int.toNat_natCast, decide_true, splice, coreS, Value.cells, Value.oneCell', Nat.reduceAdd, Nat.reduceSub, Nat.reduceMul, Nat.reduceLeDiff, Int.reduceEq, Nat.reduceEqDiff, H53Fs98]
  repeat (refine And.intro (by first | omega | (rw [inK_i64]; omega) | rfl | assumption | decide) ?_)
  refine WP_tree (by kernel_rfl) sta_ext (.quiet 0 (.quiet 1 (.quiet 2 (.quiet 3 (.quiet 4 (.quiet 5 (.quiet 6 (.quiet 7 (.quiet 8 (.quiet 9 (.quiet 10 (.quiet 11 (.quiet 12 (.quiet 13 (.quiet 14 (.quiet 15 (.quiet 16 (.quiet 17 (.quiet 18 (.quiet 19 (.quiet 20 (.quiet 21 (.quiet 22 (.quiet 23 (.quiet 24 (.quiet 25 (.quiet 26 (.quiet 27 (.fin))))))))))))))))))))))))))))) (by kernel_rfl) rfl (by kernel_rfl) ?_
  by_cases d1 : V.getD z 0 < OV.far
  case neg =>
    have e1 : ¬ (0 : Int) ≤ wE (V.getD z 0) := by have := wE_neg.2 d1; omega
    have es : nx = m.ov.cstK V (z + 1) := by rw [hsucc, cs1_same (by omega) (fun _ => by omega)]
    simp only [ho6, c1, e1, gtT_none, Int.toNat_natCast, decide_false, splice, coreS, Value.cells, Value.oneCell', Nat.reduceAdd, Nat.reduceSub, Nat.reduceMul, Nat.reduceLeDiff, Int.reduceEq, Nat.reduceEqDiff, drawS, treeS, H53Fs98]
    repeat (refine And.intro (by first | omega | (rw [inK_i64]; omega) | rfl | assumption | decide) ?_)
    refine execT_fin fun h7 x7 => ?_
    simp only [splice, coreS, Value.cells, Value.oneCell', Nat.reduceAdd, Nat.reduceSub, Nat.reduceMul, Nat.reduceLeDiff, Int.reduceEq, Nat.reduceEqDiff, H53Fs98]
    repeat (refine And.intro (by first | omega | (rw [inK_i64]; omega) | rfl | assumption | decide) ?_)
    obtain ⟨f1, f2, f3, f4, f5⟩ := hsame x7 es
    exact roundK_mk (by kernel_rfl) ⟨z + 1, by omega, rfl, f1, f2, f3, f4, f5⟩ mlt
  have w1 : wE (V.getD z 0) = (V.getD z 0 : Nat) := wE_lt d1
  have e1 : (0 : Int) ≤ ((V.getD z 0 : Nat) : Int) := by omega
  rw [w1] at c1
  simp only [ho6, hb6, c1, e1, Int.toNat_natCast, decide_true, splice, coreS, Value.cells, Value.oneCell', Nat.reduceAdd, Nat.reduceSub, Nat.reduceMul, Nat.reduceLeDiff, Int.reduceEq, Nat.reduceEqDiff, drawS, treeS, H53Fs98]
  repeat (refine And.intro (by first | omega | (rw [inK_i64]; omega) | rfl | assumption | decide) ?_)
  try rw [hval]
  refine cQ_ext _ (fun h' x' => CallsH.mono (can67 m z h') fun v h'' q => ⟨q.1, q.2⟩) ?_
  rw [canV]
  cases hca : m.ov.can (z, z) with
  | false =>
    have es : nx = m.ov.cstK V (z + 1) := by rw [hsucc, cs1_same (by omega) (fun h => by rw [hca] at h; cases h)]
    simp only [ho6, hn6, c1, c2, gtT_none, Int.toNat_natCast, splice, coreS, Value.cells, Value.oneCell', Nat.reduceAdd, Nat.reduceSub, Nat.reduceMul, Nat.reduceLeDiff, Int.reduceEq, Nat.reduceEqDiff, drawS, treeS, H53Fs98]
    repeat (refine And.intro (by first | omega | (rw [inK_i64]; omega) | rfl | assumption | decide) ?_)
    refine execT_fin fun h7 x7 => ?_
    simp only [splice, coreS, Value.cells, Value.oneCell', Nat.reduceAdd, Nat.reduceSub, Nat.reduceMul, Nat.reduceLeDiff, Int.reduceEq, Nat.reduceEqDiff, H53Fs98]
    repeat (refine And.intro (by first | omega | (rw [inK_i64]; omega) | rfl | assumption | decide) ?_)
    obtain ⟨f1, f2, f3, f4, f5⟩ := hsame x7 es
    exact roundK_mk (by kernel_rfl) ⟨z + 1, by omega, rfl, f1, f2, f3, f4, f5⟩ mlt
  | true =>
    by_cases d3 : nx.getD (m.ov.c z) 0 < OV.far
    · have w2 : wE (nx.getD (m.ov.c z) 0) = (nx.getD (m.ov.c z) 0 : Nat) := wE_lt d3
      rw [w2] at c2
      have e3 : ¬ ((nx.getD (m.ov.c z) 0 : Nat) : Int) < 0 := by omega
      by_cases d4 : V.getD z 0 < nx.getD (m.ov.c z) 0
      · have e4 : ((V.getD z 0 : Nat) : Int) < ((nx.getD (m.ov.c z) 0 : Nat) : Int) := by omega
        simp only [ho6, hn6, c1, c2, e3, e4, gtT_none, Int.toNat_natCast, decide_true, decide_false, splice, coreS, Value.cells, Value.oneCell', Nat.reduceAdd, Nat.reduceSub, Nat.reduceMul, Nat.reduceLeDiff, Int.reduceEq, Nat.reduceEqDiff, drawS, treeS, H53Fs98]
        repeat (refine And.intro (by first | omega | (rw [inK_i64]; omega) | rfl | assumption | decide) ?_)
        try simp only [ho6, hn6, c1, c2, e3, e4, gtT_none, Int.toNat_natCast, decide_true, decide_false, splice, coreS, Value.cells, Value.oneCell', Nat.reduceAdd, Nat.reduceSub, Nat.reduceMul, Nat.reduceLeDiff, Int.reduceEq, Nat.reduceEqDiff, drawS, treeS, H53Fs98]
        repeat (refine And.intro (by first | omega | (rw [inK_i64]; omega) | rfl | assumption | decide) ?_)
        refine execT_fin fun h7 x7 => ?_
        have ho7 := x7.get ho6
        have hn7 := x7.get hn6
        simp only [ho7, hn7, c1, c2, Int.toNat_natCast, splice, coreS, Value.cells, Value.oneCell', Nat.reduceAdd, Nat.reduceSub, Nat.reduceMul, Nat.reduceLeDiff, Int.reduceEq, Nat.reduceEqDiff, H53Fs98]
        repeat (refine And.intro (by first | omega | (rw [inK_i64]; omega) | rfl | assumption | decide) ?_)
        refine stK_int hn7 (by rw [wV_length]; omega) fun h8 hb8 hu8 => ?_
        simp only [splice, coreS, Value.cells, Value.oneCell', Nat.reduceAdd, Nat.reduceSub, Nat.reduceMul, Nat.reduceLeDiff, Int.reduceEq, Nat.reduceEqDiff, H53Fs98]
        repeat (refine And.intro (by first | omega | (rw [inK_i64]; omega) | rfl | assumption | decide) ?_)
        obtain ⟨f1, f2, f3, f4, f5⟩ := hset x7 hu8 hb8 hca d1 (by omega)
        exact roundK_mk (by kernel_rfl) ⟨z + 1, by omega, rfl, f1, f2, f3, f4, f5⟩ mlt
      · have e4 : ¬ ((V.getD z 0 : Nat) : Int) < ((nx.getD (m.ov.c z) 0 : Nat) : Int) := by omega
        have es : nx = m.ov.cstK V (z + 1) := by rw [hsucc, cs1_same (by omega) (fun _ => by omega)]
        simp only [ho6, hn6, c1, c2, e3, e4, gtT_none, Int.toNat_natCast, decide_true, decide_false, splice, coreS, Value.cells, Value.oneCell', Nat.reduceAdd, Nat.reduceSub, Nat.reduceMul, Nat.reduceLeDiff, Int.reduceEq, Nat.reduceEqDiff, drawS, treeS, H53Fs98]
        repeat (refine And.intro (by first | omega | (rw [inK_i64]; omega) | rfl | assumption | decide) ?_)
        try simp only [ho6, hn6, c1, c2, e3, e4, gtT_none, Int.toNat_natCast, decide_true, decide_false, splice, coreS, Value.cells, Value.oneCell', Nat.reduceAdd, Nat.reduceSub, Nat.reduceMul, Nat.reduceLeDiff, Int.reduceEq, Nat.reduceEqDiff, drawS, treeS, H53Fs98]
        repeat (refine And.intro (by first | omega | (rw [inK_i64]; omega) | rfl | assumption | decide) ?_)
        refine execT_fin fun h7 x7 => ?_
        simp only [splice, coreS, Value.cells, Value.oneCell', Nat.reduceAdd, Nat.reduceSub, Nat.reduceMul, Nat.reduceLeDiff, Int.reduceEq, Nat.reduceEqDiff, H53Fs98]
        repeat (refine And.intro (by first | omega | (rw [inK_i64]; omega) | rfl | assumption | decide) ?_)
        obtain ⟨f1, f2, f3, f4, f5⟩ := hsame x7 es
        exact roundK_mk (by kernel_rfl) ⟨z + 1, by omega, rfl, f1, f2, f3, f4, f5⟩ mlt
    · have e3 : wE (nx.getD (m.ov.c z) 0) < 0 := wE_neg.2 d3
      simp only [ho6, hn6, c1, c2, e3, gtT_none, Int.toNat_natCast, decide_true, decide_false, splice, coreS, Value.cells, Value.oneCell', Nat.reduceAdd, Nat.reduceSub, Nat.reduceMul, Nat.reduceLeDiff, Int.reduceEq, Nat.reduceEqDiff, drawS, treeS, H53Fs98]
      repeat (refine And.intro (by first | omega | (rw [inK_i64]; omega) | rfl | assumption | decide) ?_)
      try simp only [ho6, hn6, c1, c2, e3, gtT_none, Int.toNat_natCast, decide_true, decide_false, splice, coreS, Value.cells, Value.oneCell', Nat.reduceAdd, Nat.reduceSub, Nat.reduceMul, Nat.reduceLeDiff, Int.reduceEq, Nat.reduceEqDiff, drawS, treeS, H53Fs98]
      repeat (refine And.intro (by first | omega | (rw [inK_i64]; omega) | rfl | assumption | decide) ?_)
      refine execT_fin fun h7 x7 => ?_
      have ho7 := x7.get ho6
      have hn7 := x7.get hn6
      simp only [ho7, hn7, c1, c2, Int.toNat_natCast, splice, coreS, Value.cells, Value.oneCell', Nat.reduceAdd, Nat.reduceSub, Nat.reduceMul, Nat.reduceLeDiff, Int.reduceEq, Nat.reduceEqDiff, H53Fs98]
      repeat (refine And.intro (by first | omega | (rw [inK_i64]; omega) | rfl | assumption | decide) ?_)
      refine stK_int hn7 (by rw [wV_length]; omega) fun h8 hb8 hu8 => ?_
      simp only [splice, coreS, Value.cells, Value.oneCell', Nat.reduceAdd, Nat.reduceSub, Nat.reduceMul, Nat.reduceLeDiff, Int.reduceEq, Nat.reduceEqDiff, H53Fs98]
      repeat (refine And.intro (by first | omega | (rw [inK_i64]; omega) | rfl | assumption | decide) ?_)
      obtain ⟨f1, f2, f3, f4, f5⟩ := hset x7 hu8 hb8 hca d1 (by omega)
      exact roundK_mk (by kernel_rfl) ⟨z + 1, by omega, rfl, f1, f2, f3, f4, f5⟩ mlt
end Go.Proofs.YtafemfjhflfdeaaDoor
