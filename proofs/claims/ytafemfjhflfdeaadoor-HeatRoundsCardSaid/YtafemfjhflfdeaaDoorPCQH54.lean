/- Walks: the document's Rate. -/
import Derived.Test.YtafemfjhflfdeaaDoorPCQH53
import Derived.Test.YtafemfjhflfdeaaDoorPC12
namespace Go.Proofs.YtafemfjhflfdeaaDoor
open Go Go.Proofs Go.Eng Go.Run Tab
set_option maxRecDepth 100000
set_option linter.unusedSimpArgs false
set_option linter.unusedVariables false
set_option linter.defProp false
set_option maxHeartbeats 16000000
set_option linter.defProp false
def H54Fs75 := (And.intro (And.intro (And.intro (And.intro @agg2 @agg22) (And.intro @agg24 @agg45)) (And.intro (And.intro @fo24_0 @fo45_0) (And.intro @fo45_1 (And.intro @inf2 @inf22)))) (And.intro (And.intro (And.intro @inf24 @inf45) (And.intro @okf45 @sz2)) (And.intro (And.intro @sz22 @sz24) (And.intro @sz45 (And.intro @zero45 @Tryd.underlying22)))))
/-- The best of fractions, so far. -/
def curQ : List Rt → Rt
  | [] => (0, 0)
  | x :: l => OV.bestQ x l
theorem rate_cur (o : OV) (i : Nat) : o.rate i = curQ (o.rtL i o.n) := by
  unfold OV.rate
  cases o.rtL i o.n <;> rfl
theorem cur_snoc (L : List Rt) (x : Rt) : curQ (L ++ [x]) = if L = [] then x else if OV.lessQ x (curQ L) = true then x else curQ L := by
  cases L with
  | nil => rfl
  | cons y l =>
    rw [if_neg (by simp)]
    show OV.bestQ y (l ++ [x]) = _
    rw [OV.bestQ, List.foldl_append]
    rfl
/-- Fractions that are small. -/
structure SmQ (L : List Rt) : Prop where
  den : L ≠ [] → 1 ≤ (curQ L).2
  nul : L = [] → (curQ L).2 = 0
  num : (curQ L).1 ≤ 1000
  big : (curQ L).2 ≤ 1000
theorem SmQ.nil : SmQ [] := ⟨fun h => absurd rfl h, fun _ => rfl, Nat.zero_le _, Nat.zero_le _⟩
theorem SmQ.snoc {L : List Rt} (H : SmQ L) {x : Rt} (h1 : 1 ≤ x.2) (h2 : x.1 ≤ 1000) (h3 : x.2 ≤ 1000) : SmQ (L ++ [x]) := by
  have e := cur_snoc L x
  refine ⟨fun _ => ?_, fun h => by simp at h, ?_, ?_⟩ <;> rw [e]
  · split
    · exact h1
    · rename_i hl
      split
      · exact h1
      · exact H.den hl
  · split
    · exact h2
    · split
      · exact h2
      · exact H.num
  · split
    · exact h3
    · split
      · exact h3
      · exact H.big
theorem SmQ.zero {L : List Rt} (H : SmQ L) : (curQ L).2 = 0 ↔ L = [] := by
  refine ⟨fun h => ?_, H.nul⟩
  by_cases hl : L = []
  · exact hl
  · have := H.den hl; omega
theorem rateOf75 (m : MV) (gd : m.Good) (hn1 : 1 ≤ m.casts.length) (h16 : m.casts.length ≤ 16) (i : Nat) (hi : i < m.casts.length) (h : Eng.Heap) (hm : m.ok h) :
    CallsH Tryd.prog 75 #[m.val, .int .i64 (i : Int)] h (fun v h' => v = ratV (m.ov.rate i) ∧ Ext h h') := by
  have hval : Value.agg #[.slice m.a m.casts.length m.ca, .slice m.b m.waits.length m.cb, .int .i64 m.lo, .int .i64 m.hi] = m.val := rfl
  obtain ⟨n, hn⟩ : ∃ n, m.casts.length = n := ⟨_, rfl⟩
  have hnn : m.ov.n = n := hn
  have hok := gd.ok
  have hrl : (m.ov.rch i).length = n := by rw [OV.rch, OV.rit_length, OV.rone, List.length_set, List.length_replicate, hnn]
  (refine CallsH_of_exec Tryd.func75 rfl bod75 ?_; simp only [Tryd.ntmps75, Tryd.results75, coreS, stK_some, splice, Value.cells, Value.oneCell', Nat.reduceAdd, Nat.reduceSub, Nat.reduceMul, Nat.reduceLeDiff, Int.reduceEq, Nat.reduceEqDiff, H54Fs75])
  have x0 : Ext h ((h.push (.cells #[.slice m.a m.casts.length m.ca, .slice m.b m.waits.length m.cb, .int .i64 m.lo, .int .i64 m.hi] 24)).push (.cells #[.int .i64 0, .int .i64 0] 45)) := ((Ext.refl h).push _).push _
  try simp only [push_get, push_size, if_true, if_false, splice, coreS, Value.cells, Value.oneCell', Nat.reduceAdd, Nat.reduceSub, Nat.reduceMul, Nat.reduceLeDiff, Int.reduceEq, Nat.reduceEqDiff, H54Fs75]
  try rw [hval]
  refine CallsH.mono (reached97 m gd h16 i hi _ (hm.ext x0)) ?_
  rintro v h1 ⟨rfl, x1⟩
  have y1 := x0.trans x1
  have b1 := x1.get (pn0 (h := h) (o := .cells #[.slice m.a m.casts.length m.ca, .slice m.b m.waits.length m.cb, .int .i64 m.lo, .int .i64 m.hi] 24) (o' := .cells #[.int .i64 0, .int .i64 0] 45))
  have r1 := x1.get (pn1 (h := h) (o := .cells #[.slice m.a m.casts.length m.ca, .slice m.b m.waits.length m.cb, .int .i64 m.lo, .int .i64 m.hi] 24) (o' := .cells #[.int .i64 0, .int .i64 0] 45))
  have hsz1 := y1.size
  have hzr := lt_of_get r1
  simp only [splice, coreS, Value.cells, Value.oneCell', Nat.reduceAdd, Nat.reduceSub, Nat.reduceMul, Nat.reduceLeDiff, Int.reduceEq, Nat.reduceEqDiff, H54Fs75]
  refine stK_abs push_new (by simp) fun h2 g2 u2 => ?_
  simp only [splice] at g2
  have b2 := u2.get (push_old b1) (by have := lt_of_get b1; omega)
  have r2 := u2.get (push_old r1) (by omega)
  have y2 : Ext h h2 := u2.ext (y1.push _) hsz1
  obtain ⟨ob, hob⟩ : ∃ ob, h1.size = ob := ⟨_, rfl⟩
  rw [hob] at g2
  simp only [hob, splice, coreS, Value.cells, Value.oneCell', Nat.reduceAdd, Nat.reduceSub, Nat.reduceMul, Nat.reduceLeDiff, Int.reduceEq, Nat.reduceEqDiff, H54Fs75]
  refine WP_loopI [7, 8, 9, 10, 15, 16, 17, 18, 19, 20, 21, 22, 23, 24, 25, 26, 27, 28, 29, 30, 31, 32, 33, 34, 35, 36, 37, 38, 39, 40, 41, 42, 43, 44, 45, 46, 47, 48, 49, 50, 51, 52, 53, 54, 55, 56, 57, 58, 59, 60, 61] (fun g h' => ∃ q : Nat, q ≤ n ∧ g 7 = .int .i64 q ∧ SmQ (m.ov.rtL i q) ∧ Ext h h' ∧ h'[h.size]? = some (.cells #[.slice m.a m.casts.length m.ca, .slice m.b m.waits.length m.cb, .int .i64 m.lo, .int .i64 m.hi] 24) ∧ h'[h.size + 1]? = some (.cells #[.int .i64 0, .int .i64 0] 45) ∧ h'[ob]? = some (.cells #[.int .i64 ((curQ (m.ov.rtL i q)).1 : Nat), .int .i64 ((curQ (m.ov.rtL i q)).2 : Nat)] 45)) (fun g _ => match g 7 with | .int _ q => n - q.toNat | _ => 0) ⟨0, by omega, rfl, SmQ.nil, y2, b2, r2, g2⟩ ?_
  have hzo : h.size + 1 < ob := by omega
  clear g2 u2 b2 r2 y2 x0 y1 b1 r1
  rintro g3 h3 ⟨q, hqn, hg7, sm3, y3, b3, r3, o3⟩
  by_cases hq : q < n
  case neg =>
    obtain rfl : q = n := by omega
    have l0 : ¬ ((q : Int) < (m.casts.length : Int)) := by omega
    simp only [hg7, b3, r3, o3, l0, decide_false, splice, coreS, Value.cells, Value.oneCell', Nat.reduceAdd, Nat.reduceSub, Nat.reduceMul, Nat.reduceLeDiff, Int.reduceEq, Nat.reduceEqDiff, H54Fs75]
    refine stK_abs r3 (by simp) fun h4 g4 u4 => ?_
    simp only [splice] at g4
    simp only [g4, splice, coreS, Value.cells, Value.oneCell', Nat.reduceAdd, Nat.reduceSub, Nat.reduceMul, Nat.reduceLeDiff, Int.reduceEq, Nat.reduceEqDiff, H54Fs75]
    exact ⟨by rw [rate_cur, hnn], u4.ext y3 (by omega)⟩
  have l0 : (q : Int) < (m.casts.length : Int) := by omega
  simp only [hg7, b3, l0, decide_true, splice, coreS, Value.cells, Value.oneCell', Nat.reduceAdd, Nat.reduceSub, Nat.reduceMul, Nat.reduceLeDiff, Int.reduceEq, Nat.reduceEqDiff, H54Fs75]
  have hq0 : m.ov.rtL i q ++ m.ov.rtH i q 0 = m.ov.rtL i q := by rw [OV.rtH]; simp
  refine WP_loopI [8, 9, 10, 22, 23, 24, 25, 26, 27, 28, 29, 30, 31, 32, 33, 34, 35, 36, 37, 38, 39, 40, 41, 42, 43, 44, 45, 46, 47, 48, 49, 50, 51, 52, 53, 54, 55, 56, 57, 58, 59, 60, 61] (fun g h' => ∃ c : Nat, 1 ≤ c ∧ c ≤ n + 1 ∧ g 8 = .int .i64 c ∧ SmQ (m.ov.rtL i q ++ m.ov.rtH i q (c - 1)) ∧ Ext h h' ∧ h'[h.size]? = some (.cells #[.slice m.a m.casts.length m.ca, .slice m.b m.waits.length m.cb, .int .i64 m.lo, .int .i64 m.hi] 24) ∧ h'[h.size + 1]? = some (.cells #[.int .i64 0, .int .i64 0] 45) ∧ h'[ob]? = some (.cells #[.int .i64 ((curQ (m.ov.rtL i q ++ m.ov.rtH i q (c - 1))).1 : Nat), .int .i64 ((curQ (m.ov.rtL i q ++ m.ov.rtH i q (c - 1))).2 : Nat)] 45)) (fun g _ => match g 8 with | .int _ q => n + 1 - q.toNat | _ => 0) ⟨1, by omega, by omega, rfl, by rw [hq0]; exact sm3, y3, b3, r3, by rw [hq0]; exact o3⟩ ?_
  clear sm3 y3 b3 r3 o3
  rintro g4 h4 ⟨c, hc1, hcn, hg8, sm4, y4, b4, r4, o4⟩
  by_cases hc : c ≤ n
  case neg =>
    obtain rfl : c = n + 1 := by omega
    have l1 : ¬ (((n + 1 : Nat) : Int) ≤ (m.casts.length : Int)) := by omega
    simp only [hg8, b4, l1, decide_false, splice, coreS, Value.cells, Value.oneCell', Nat.reduceAdd, Nat.reduceSub, Nat.reduceMul, Nat.reduceLeDiff, Int.reduceEq, Nat.reduceEqDiff, H54Fs75]
    have e1 : m.ov.rtL i q ++ m.ov.rtH i q (n + 1 - 1) = m.ov.rtL i (q + 1) := by rw [OV.rtL_succ, hnn, Nat.add_sub_cancel]
    rw [e1] at sm4 o4
    refine ⟨by rw [inK_i64]; omega, roundK_mk (by kernel_rfl) ⟨q + 1, by omega, rfl, sm4, y4, b4, r4, o4⟩ ?_⟩
    show n - ((q : Int) + 1).toNat < n - (q : Int).toNat
    omega
  have l1 : (c : Int) ≤ (m.casts.length : Int) := by omega
  simp only [hg8, b4, l1, decide_true, splice, coreS, Value.cells, Value.oneCell', Nat.reduceAdd, Nat.reduceSub, Nat.reduceMul, Nat.reduceLeDiff, Int.reduceEq, Nat.reduceEqDiff, H54Fs75]
  try rw [hval]
  refine CallsH.mono (back98 m gd hn1 h16 q (by omega) c (by omega) h4 (hm.ext y4)) ?_
  rintro v h5 ⟨rfl, x5⟩
  have y5 := y4.trans x5
  have b5 := x5.get b4
  have r5 := x5.get r4
  have o5 := x5.get o4
  have hbit := bit_test (m.ov.rch i) q (by omega)
  have hbd := OV.bk_bd hok (j := q) (by omega) c (by omega) q (by omega)
  have hbm : (c + 1) * m.ov.n ≤ 17 * 16 := Nat.mul_le_mul (by omega) (by omega)
  have hH := OV.rtH_succ (o := m.ov) i q (c - 1)
  rw [Nat.sub_add_cancel hc1] at hH
  have mlt : n + 1 - ((c : Int) + 1).toNat < n + 1 - (c : Int).toNat := by omega
  have hfar := OV.far_eq
  obtain ⟨L, hL⟩ : ∃ L, m.ov.rtL i q ++ m.ov.rtH i q (c - 1) = L := ⟨_, rfl⟩
  have hLn : m.ov.rtL i q ++ m.ov.rtH i q (c + 1 - 1) = L ++ m.ov.rtX i q c := by rw [Nat.add_sub_cancel, hH, ← List.append_assoc, hL]
  rw [hL] at sm4 o5
  have hnb := nb_lt (m.ov.rch i)
  have hn16 : 2 ^ (m.ov.rch i).length ≤ 2 ^ 16 := Nat.pow_le_pow_right (by decide) (by omega)
  have skip : ∀ {h9 : Eng.Heap}, Ext h5 h9 → m.ov.rtX i q c = [] → SmQ (m.ov.rtL i q ++ m.ov.rtH i q (c + 1 - 1)) ∧ Ext h h9 ∧ h9[h.size]? = some (.cells #[.slice m.a m.casts.length m.ca, .slice m.b m.waits.length m.cb, .int .i64 m.lo, .int .i64 m.hi] 24) ∧ h9[h.size + 1]? = some (.cells #[.int .i64 0, .int .i64 0] 45) ∧ h9[ob]? = some (.cells #[.int .i64 ((curQ (m.ov.rtL i q ++ m.ov.rtH i q (c + 1 - 1))).1 : Nat), .int .i64 ((curQ (m.ov.rtL i q ++ m.ov.rtH i q (c + 1 - 1))).2 : Nat)] 45) := fun x e => by
    rw [hLn, e, List.append_nil]
    exact ⟨sm4, y5.trans x, x.get b5, x.get r5, x.get o5⟩
  cases hb : (m.ov.rch i).getD q false with
  | false =>
    rw [hb] at hbit
    simp only [Bool.false_eq_true, if_false] at hbit
    have hX : m.ov.rtX i q c = [] := by rw [OV.rtX, OV.isBk, hb, Bool.and_false, if_neg (by decide)]
    simp only [hbit, gd_none, Int.toNat_natCast, decide_true, splice, coreS, Value.cells, Value.oneCell', Nat.reduceAdd, Nat.reduceSub, Nat.reduceMul, Nat.reduceLeDiff, Int.reduceEq, Nat.reduceEqDiff, H54Fs75]
    repeat (refine And.intro (by first | omega | (rw [inK_i64]; omega) | (show (q : Int) ≤ 64; omega) | rfl | assumption | decide) ?_)
    obtain ⟨f1, f2, f3, f4, f5⟩ := skip (Ext.refl _) hX
    exact roundK_mk (by kernel_rfl) ⟨c + 1, by omega, by omega, rfl, f1, f2, f3, f4, f5⟩ mlt
  | true =>
    rw [hb] at hbit
    simp only [if_true] at hbit
    have ne1 : ¬ (1 : Int) = 0 := by decide
    by_cases d1 : (m.ov.bk q c).getD q 0 < OV.far
    case neg =>
      have e1 : wE ((m.ov.bk q c).getD q 0) < 0 := wE_neg.2 d1
      have hX : m.ov.rtX i q c = [] := by rw [OV.rtX, OV.isBk, decide_eq_false d1, Bool.false_and, if_neg (by decide)]
      simp only [hbit, e1, ne1, gd_none, Int.toNat_natCast, decide_true, decide_false, splice, coreS, Value.cells, Value.oneCell', Nat.reduceAdd, Nat.reduceSub, Nat.reduceMul, Nat.reduceLeDiff, Int.reduceEq, Nat.reduceEqDiff, H54Fs75]
      repeat (refine And.intro (by first | omega | (rw [inK_i64]; omega) | (show (q : Int) ≤ 64; omega) | rfl | assumption | decide) ?_)
      obtain ⟨f1, f2, f3, f4, f5⟩ := skip (Ext.refl _) hX
      exact roundK_mk (by kernel_rfl) ⟨c + 1, by omega, by omega, rfl, f1, f2, f3, f4, f5⟩ mlt
    have w1 := wE_lt d1
    have e1 : ¬ (((m.ov.bk q c).getD q 0 : Nat) : Int) < 0 := by omega
    obtain ⟨W, hW⟩ : ∃ W, (m.ov.bk q c).getD q 0 = W := ⟨_, rfl⟩
    have hX : m.ov.rtX i q c = [OV.byP W c] := by rw [OV.rtX, OV.isBk, decide_eq_true d1, hb, Bool.and_true, if_pos rfl, hW]
    rw [hW] at w1 e1 d1 hbd
    rw [hW, w1]
    simp only [hbit, e1, ne1, gd_none, Int.toNat_natCast, decide_true, decide_false, splice, coreS, Value.cells, Value.oneCell', Nat.reduceAdd, Nat.reduceSub, Nat.reduceMul, Nat.reduceLeDiff, Int.reduceEq, Nat.reduceEqDiff, H54Fs75]
    repeat (refine And.intro (by first | omega | (rw [inK_i64]; omega) | (show (q : Int) ≤ 64; omega) | rfl | assumption | decide) ?_)
    refine CallsH.mono (by72 W c h5 hc1 (by omega) (by omega)) ?_
    rintro v h6 ⟨rfl, x6⟩
    obtain ⟨_, _, _, _, px2⟩ := OV.byP_eq (a := W) hc1
    have pxl := OV.byP_le (a := W) (b := c)
    obtain ⟨X, hXX⟩ : ∃ X, OV.byP W c = X := ⟨_, rfl⟩
    rw [hXX] at hX px2 pxl
    rw [hXX]
    have hLX : m.ov.rtL i q ++ m.ov.rtH i q (c + 1 - 1) = L ++ [X] := by rw [hLn, hX]
    have smX := sm4.snoc (x := X) px2 (by omega) (by omega)
    have hcs := cur_snoc L X
    simp only [ratV, splice, coreS, Value.cells, Value.oneCell', Nat.reduceAdd, Nat.reduceSub, Nat.reduceMul, Nat.reduceLeDiff, Int.reduceEq, Nat.reduceEqDiff, H54Fs75]
    refine stK_abs push_new (by simp) fun h7 g7 u7 => ?_
    simp only [splice] at g7
    have y6 := y5.trans x6
    have hz6 := y6.size
    have b6 := x6.get b5
    have r6 := x6.get r5
    have o6 := x6.get o5
    have b7 := u7.get (push_old b6) (by have := lt_of_get b6; omega)
    have r7 := u7.get (push_old r6) (by have := lt_of_get r6; omega)
    have o7 := u7.get (push_old o6) (by have := lt_of_get o6; omega)
    have y7 : Ext h h7 := u7.ext (y6.push _) hz6
    have hzo7 := lt_of_get o6
    obtain ⟨A, hA, eA, lA⟩ := prod_atom X.1 (curQ L).2 1000 1000 (by omega) sm4.big
    obtain ⟨B, hB, eB, lB⟩ := prod_atom (curQ L).1 X.2 1000 1000 sm4.num (by omega)
    have keep : curQ (L ++ [X]) = curQ L → SmQ (m.ov.rtL i q ++ m.ov.rtH i q (c + 1 - 1)) ∧ Ext h h7 ∧ h7[h.size]? = some (.cells #[.slice m.a m.casts.length m.ca, .slice m.b m.waits.length m.cb, .int .i64 m.lo, .int .i64 m.hi] 24) ∧ h7[h.size + 1]? = some (.cells #[.int .i64 0, .int .i64 0] 45) ∧ h7[ob]? = some (.cells #[.int .i64 ((curQ (m.ov.rtL i q ++ m.ov.rtH i q (c + 1 - 1))).1 : Nat), .int .i64 ((curQ (m.ov.rtL i q ++ m.ov.rtH i q (c + 1 - 1))).2 : Nat)] 45) := fun e => by
      rw [hLX, e]
      exact ⟨smX, y7, b7, r7, o7⟩
    have change : curQ (L ++ [X]) = X → ∀ {h8 : Eng.Heap}, h8[ob]? = some (.cells #[.int .i64 (X.1 : Int), .int .i64 (X.2 : Int)] 45) → Upd h7 h8 ob → SmQ (m.ov.rtL i q ++ m.ov.rtH i q (c + 1 - 1)) ∧ Ext h h8 ∧ h8[h.size]? = some (.cells #[.slice m.a m.casts.length m.ca, .slice m.b m.waits.length m.cb, .int .i64 m.lo, .int .i64 m.hi] 24) ∧ h8[h.size + 1]? = some (.cells #[.int .i64 0, .int .i64 0] 45) ∧ h8[ob]? = some (.cells #[.int .i64 ((curQ (m.ov.rtL i q ++ m.ov.rtH i q (c + 1 - 1))).1 : Nat), .int .i64 ((curQ (m.ov.rtL i q ++ m.ov.rtH i q (c + 1 - 1))).2 : Nat)] 45) := fun e h8 g8 u8 => by
      rw [hLX, e]
      exact ⟨smX, u8.ext y7 (by omega), u8.get b7 (by omega), u8.get r7 (by omega), g8⟩
    have hne7 : h6.size ≠ ob := by omega
    by_cases z0 : (curQ L).2 = 0
    · have z1 : ((curQ L).2 : Int) = 0 := by omega
      have hLe := sm4.zero.1 z0
      have o8 : h7[ob]? = some (.cells #[.int .i64 ((curQ L).1 : Nat), .int .i64 0] 45) := by rw [o7, z0]; rfl
      simp only [g7, o8, gd_none, decide_true, splice, coreS, Value.cells, Value.oneCell', Nat.reduceAdd, Nat.reduceSub, Nat.reduceMul, Nat.reduceLeDiff, Int.reduceEq, Nat.reduceEqDiff, H54Fs75]
      repeat (refine And.intro (by first | omega | (rw [inK_i64]; omega) | rfl | assumption | decide) ?_)
      refine stK_abs o8 (by simp) fun h8 g8 u8 => ?_
      simp only [splice] at g8
      simp only [splice, coreS, Value.cells, Value.oneCell', Nat.reduceAdd, Nat.reduceSub, Nat.reduceMul, Nat.reduceLeDiff, Int.reduceEq, Nat.reduceEqDiff, H54Fs75]
      obtain ⟨f1, f2, f3, f4, f5⟩ := change (by rw [hcs, if_pos hLe]) g8 u8
      exact ⟨by rw [inK_i64]; omega, roundK_mk (by kernel_rfl) ⟨c + 1, by omega, by omega, rfl, f1, f2, f3, f4, f5⟩ mlt⟩
    · have z1 : ¬ ((curQ L).2 : Int) = 0 := by omega
      have hLe : ¬ L = [] := fun h => z0 (sm4.zero.2 h)
      by_cases z2 : A < B
      · have z3 : (A : Int) < B := by omega
        have hlq : OV.lessQ X (curQ L) = true := by rw [OV.lessQ, decide_eq_true_eq, hA, hB]; exact z2
        simp only [g7, o7, z1, eA, eB, z3, gd_none, decide_true, decide_false, splice, coreS, Value.cells, Value.oneCell', Nat.reduceAdd, Nat.reduceSub, Nat.reduceMul, Nat.reduceLeDiff, Int.reduceEq, Nat.reduceEqDiff, H54Fs75]
        repeat (refine And.intro (by first | omega | (rw [inK_i64]; omega) | rfl | assumption | decide) ?_)
        try simp only [g7, o7, z1, eA, eB, z3, gd_none, decide_true, decide_false, splice, coreS, Value.cells, Value.oneCell', Nat.reduceAdd, Nat.reduceSub, Nat.reduceMul, Nat.reduceLeDiff, Int.reduceEq, Nat.reduceEqDiff, H54Fs75]
        refine stK_abs o7 (by simp) fun h8 g8 u8 => ?_
        simp only [splice] at g8
        simp only [splice, coreS, Value.cells, Value.oneCell', Nat.reduceAdd, Nat.reduceSub, Nat.reduceMul, Nat.reduceLeDiff, Int.reduceEq, Nat.reduceEqDiff, H54Fs75]
        obtain ⟨f1, f2, f3, f4, f5⟩ := change (by rw [hcs, if_neg hLe, if_pos hlq]) g8 u8
        exact ⟨by rw [inK_i64]; omega, roundK_mk (by kernel_rfl) ⟨c + 1, by omega, by omega, rfl, f1, f2, f3, f4, f5⟩ mlt⟩
      · have z3 : ¬ (A : Int) < B := by omega
        have hlq : ¬ OV.lessQ X (curQ L) = true := by rw [OV.lessQ, decide_eq_true_eq, hA, hB]; exact z2
        simp only [g7, o7, z1, eA, eB, z3, gd_none, decide_true, decide_false, splice, coreS, Value.cells, Value.oneCell', Nat.reduceAdd, Nat.reduceSub, Nat.reduceMul, Nat.reduceLeDiff, Int.reduceEq, Nat.reduceEqDiff, H54Fs75]
        repeat (refine And.intro (by first | omega | (rw [inK_i64]; omega) | rfl | assumption | decide) ?_)
        obtain ⟨f1, f2, f3, f4, f5⟩ := keep (by rw [hcs, if_neg hLe, if_neg hlq])
        exact roundK_mk (by kernel_rfl) ⟨c + 1, by omega, by omega, rfl, f1, f2, f3, f4, f5⟩ mlt
end Go.Proofs.YtafemfjhflfdeaaDoor
