/- Walks: RoundError, reached. -/
import Derived.Test.YtafemfjhflfdeaaDoorPC12
namespace Go.Proofs.YtafemfjhflfdeaaDoor
open Go Go.Proofs Go.Eng Go.Run Tab
set_option maxRecDepth 100000
set_option linter.unusedSimpArgs false
set_option linter.unusedVariables false
set_option linter.defProp false
set_option maxHeartbeats 8000000
set_option linter.defProp false
def H51Fs40 := (And.intro (And.intro (And.intro @agg24 @agg3) (And.intro @by3 @inf24)) (And.intro (And.intro @inf3 @sz24) (And.intro @sz3 @Tryd.underlying22)))
def H51Fs97 := (And.intro (And.intro (And.intro @agg22 (And.intro @agg24 @agg3)) (And.intro @by3 (And.intro @fo24_0 @fo24_1))) (And.intro (And.intro @inf22 (And.intro @inf24 @inf3)) (And.intro (And.intro @sz22 @sz24) (And.intro @sz3 @Tryd.underlying22))))
theorem roundE40 (m : MV) (x : Int) (h : Eng.Heap) (hm : m.ok h) :
    CallsH Tryd.prog 40 #[m.val, .int .i64 x] h (fun v h' => v = .int .i64 (roE m x) ∧ Ext h h') := by
  have hb := push_new (h := h) (o := .cells #[.slice m.a m.casts.length m.ca, .slice m.b m.waits.length m.cb, .int .i64 m.lo, .int .i64 m.hi] 24)
  have x0 : Ext h (h.push (.cells #[.slice m.a m.casts.length m.ca, .slice m.b m.waits.length m.cb, .int .i64 m.lo, .int .i64 m.hi] 24)) := (Ext.refl h).push _
  have hval : Value.agg #[.slice m.a m.casts.length m.ca, .slice m.b m.waits.length m.cb, .int .i64 m.lo, .int .i64 m.hi] = m.val := rfl
  (refine CallsH_of_exec Tryd.func40 rfl bod40 ?_; simp only [Tryd.ntmps40, Tryd.results40, coreS, stK_some, splice, Value.cells, Value.oneCell', Nat.reduceAdd, Nat.reduceSub, Nat.reduceMul, Nat.reduceLeDiff, Int.reduceEq, Nat.reduceEqDiff, H51Fs40])
  refine CallsH.mono (isFrom60 m x _ (hm.ext x0)) ?_
  rintro v h1 ⟨rfl, x1⟩
  have y1 := x0.trans x1
  have b1 := x1.get hb
  by_cases e0 : opn m [x] = 0
  · obtain ⟨i, rfl, hi, h16, gd⟩ := opn_in e0
    have eE : roE m i = if 0 ≤ moV m i then 22 else 0 := by rw [roE, if_neg (by simpa using e0), Int.toNat_natCast]
    simp only [e0, b1, decide_true, Bool.not_true, splice, coreS, Value.cells, Value.oneCell', Nat.reduceAdd, Nat.reduceSub, Nat.reduceMul, Nat.reduceLeDiff, Int.reduceEq, Nat.reduceEqDiff, H51Fs40]
    rw [hval]
    refine CallsH.mono (mostOf69 m gd (by omega) h16 h1 (hm.ext y1)) ?_
    rintro v h2 ⟨⟨a, c, rfl, I⟩, x2⟩
    have hl : (moL m m.casts.length).length = m.casts.length := by simp [moL]
    have hcell := I.cell (j := i) (by omega)
    have hat : (moL m m.casts.length).getD i 0 = moV m i := by simp [moL, List.getD, hi]
    rw [hat] at hcell
    have hsm := I.isSome (by omega)
    rw [eE]
    by_cases h0 : 0 ≤ moV m i
    · simp only [hcell, h0, decide_true, Int.toNat_natCast, splice, coreS, Value.cells, Value.oneCell', Nat.reduceAdd, Nat.reduceSub, Nat.reduceMul, Nat.reduceLeDiff, Int.reduceEq, Nat.reduceEqDiff, H51Fs40]
      repeat (refine And.intro (by first | omega | (rw [inK_i64]; omega) | rfl | assumption | decide) ?_)
      exact y1.trans x2
    · simp only [hcell, h0, decide_false, Int.toNat_natCast, splice, coreS, Value.cells, Value.oneCell', Nat.reduceAdd, Nat.reduceSub, Nat.reduceMul, Nat.reduceLeDiff, Int.reduceEq, Nat.reduceEqDiff, H51Fs40]
      repeat (refine And.intro (by first | omega | (rw [inK_i64]; omega) | rfl | assumption | decide) ?_)
      exact y1.trans x2
  · have eE : roE m x = opn m [x] := by rw [roE, if_pos e0]
    simp only [e0, b1, decide_false, Bool.not_false, splice, coreS, Value.cells, Value.oneCell', Nat.reduceAdd, Nat.reduceSub, Nat.reduceMul, Nat.reduceLeDiff, Int.reduceEq, Nat.reduceEqDiff, H51Fs40]
    rw [hval]
    refine CallsH.mono (isFrom60 m x h1 (hm.ext y1)) ?_
    rintro v h2 ⟨rfl, x2⟩
    simp only [coreS, Value.cells, Value.oneCell', Nat.reduceAdd, Nat.reduceSub, Nat.reduceMul, Nat.reduceLeDiff, Int.reduceEq, Nat.reduceEqDiff, H51Fs40]
    exact ⟨by rw [eE], y1.trans x2⟩
/-- Bits as a number. -/
def nb : List Bool → Nat
  | [] => 0
  | b :: l => b.toNat + 2 * nb l
theorem nb_bit : ∀ (l : List Bool) (j : Nat), (nb l).testBit j = l.getD j false
  | [], j => by simp [nb]
  | b :: l, 0 => by
    rw [nb, Nat.testBit_zero]
    cases b <;> simp [Bool.toNat] <;> omega
  | b :: l, j + 1 => by
    rw [nb, Nat.testBit_succ]
    have : (b.toNat + 2 * nb l) / 2 = nb l := by cases b <;> simp [Bool.toNat] <;> omega
    rw [this, nb_bit l j]
    simp
theorem nb_lt : ∀ (l : List Bool), nb l < 2 ^ l.length
  | [] => by simp [nb]
  | b :: l => by
    have := nb_lt l
    rw [nb, List.length_cons, Nat.pow_succ]
    cases b <;> simp [Bool.toNat] <;> omega
theorem nb_or (l : List Bool) {w : Nat} (hw : w < l.length) : nb l ||| 2 ^ w = nb (l.set w true) := by
  apply Nat.eq_of_testBit_eq
  intro j
  rw [Nat.testBit_or, nb_bit, nb_bit, Nat.testBit_two_pow, OV.getB_set hw]
  by_cases h : j = w
  · subst h; simp
  · rw [if_neg h]; simp [Ne.symm h]
theorem nb_one {n i : Nat} (hi : i < n) : nb ((List.replicate n false).set i true) = 2 ^ i := by
  apply Nat.eq_of_testBit_eq
  intro j
  rw [nb_bit, Nat.testBit_two_pow, OV.getB_set (by simpa using hi)]
  by_cases h : j = i
  · subst h; simp
  · rw [if_neg h]
    simp [Ne.symm h, List.getD_eq_getElem?_getD, List.getElem?_replicate]
    split <;> rfl
theorem bits_and (a b : Nat) (ha : a < 1000000) (hb : b < 1000000) : bitsI .and .i64 (a : Int) (b : Int) = ((a &&& b : Nat) : Int) := by
  have h1 : a &&& b ≤ a := Nat.and_le_left
  unfold bitsI
  show IntKind.i64.wrap ((BitVec.ofInt 64 (a : Int) &&& BitVec.ofInt 64 (b : Int)).toNat : Int) = _
  rw [BitVec.toNat_and, BitVec.ofInt_natCast, BitVec.ofInt_natCast, BitVec.toNat_ofNat, BitVec.toNat_ofNat, Nat.mod_eq_of_lt (by omega), Nat.mod_eq_of_lt (by omega)]
  exact wrap_inK (by rw [inK_i64]; omega)
theorem bits_or (a b : Nat) (ha : a < 2 ^ 20) (hb : b < 2 ^ 20) : bitsI .or .i64 (a : Int) (b : Int) = ((a ||| b : Nat) : Int) := by
  have h1 : a ||| b < 2 ^ 20 := Nat.or_lt_two_pow ha hb
  unfold bitsI
  show IntKind.i64.wrap ((BitVec.ofInt 64 (a : Int) ||| BitVec.ofInt 64 (b : Int)).toNat : Int) = _
  rw [BitVec.toNat_or, BitVec.ofInt_natCast, BitVec.ofInt_natCast, BitVec.toNat_ofNat, BitVec.toNat_ofNat, Nat.mod_eq_of_lt (by omega), Nat.mod_eq_of_lt (by omega)]
  exact wrap_inK (by rw [inK_i64]; omega)
/-- The test of a bit. -/
theorem bit_test (l : List Bool) (j : Nat) (hl : l.length ≤ 16) : bitsI .and .i64 (((nb l : Nat) : Int) / 2 ^ j) 1 = if l.getD j false then 1 else 0 := by
  have hlt := nb_lt l
  have h16 : 2 ^ l.length ≤ 2 ^ 16 := Nat.pow_le_pow_right (by decide) hl
  have h2 : ((nb l : Nat) : Int) / 2 ^ j = ((nb l / 2 ^ j : Nat) : Int) := by
    rw [Int.natCast_ediv, Int.natCast_pow]; rfl
  have h3 : nb l / 2 ^ j ≤ nb l := Nat.div_le_self _ _
  have h4 := bits_and (nb l / 2 ^ j) 1 (by omega) (by omega)
  rw [h2, show (1 : Int) = ((1 : Nat) : Int) from rfl, h4, Nat.and_one_is_mod]
  have h5 := nb_bit l j
  rw [Nat.testBit_eq_decide_div_mod_eq] at h5
  rw [← h5]
  by_cases h : nb l / 2 ^ j % 2 = 1
  · rw [h]; simp
  · have : nb l / 2 ^ j % 2 = 0 := by omega
    rw [this]; simp
/-- Heats that are reached, so far. -/
def rfo (o : OV) (R : List Bool) (x : Nat) : List Bool := (List.range x).foldl o.rst R
theorem rfo_succ (o : OV) (R : List Bool) (x : Nat) : rfo o R (x + 1) = o.rst (rfo o R x) x := by rw [rfo, List.range_succ, List.foldl_append]; rfl
theorem rfo_length (o : OV) (R : List Bool) (x : Nat) : (rfo o R x).length = R.length := OV.rfold_length _ _
theorem reached97 (m : MV) (gd : m.Good) (h16 : m.casts.length ≤ 16) (i : Nat) (hi : i < m.casts.length) (h : Eng.Heap) (hm : m.ok h) :
    CallsH Tryd.prog 97 #[m.val, .int .i64 (i : Int)] h (fun v h' => v = .int .i64 (nb (m.ov.rch i) : Nat) ∧ Ext h h') := by
  have hval : Value.agg #[.slice m.a m.casts.length m.ca, .slice m.b m.waits.length m.cb, .int .i64 m.lo, .int .i64 m.hi] = m.val := rfl
  obtain ⟨n, hn⟩ : ∃ n, m.casts.length = n := ⟨_, rfl⟩
  have hnn : m.ov.n = n := hn
  have hwl := gd.wl
  have e1 : (1 : Int) * 2 ^ i = ((2 ^ i : Nat) : Int) := by rw [Int.one_mul, Int.natCast_pow]; rfl
  have p16 : ∀ j, j < n → 2 ^ j ≤ 2 ^ 15 := fun j hj => Nat.pow_le_pow_right (by decide) (by omega)
  have hone : nb (m.ov.rone i) = 2 ^ i := nb_one (by rw [hnn]; omega)
  have hl0 : (m.ov.rone i).length = n := by rw [OV.rone, List.length_set, List.length_replicate, hnn]
  (refine CallsH_of_exec Tryd.func97 rfl bod97 ?_; simp only [Tryd.ntmps97, Tryd.results97, coreS, stK_some, splice, Value.cells, Value.oneCell', Nat.reduceAdd, Nat.reduceSub, Nat.reduceMul, Nat.reduceLeDiff, Int.reduceEq, Nat.reduceEqDiff, H51Fs97])
  have hb := push_new (h := h) (o := .cells #[.slice m.a m.casts.length m.ca, .slice m.b m.waits.length m.cb, .int .i64 m.lo, .int .i64 m.hi] 24)
  have x0 : Ext h (h.push (.cells #[.slice m.a m.casts.length m.ca, .slice m.b m.waits.length m.cb, .int .i64 m.lo, .int .i64 m.hi] 24)) := (Ext.refl h).push _
  simp only [Int.toNat_natCast, e1]
  have pi := p16 i (by omega)
  repeat (refine And.intro (by first | omega | (rw [inK_i64]; omega) | (show (i : Int) ≤ 64; omega) | rfl | assumption | decide) ?_)
  refine WP_loopI [5, 6, 7, 10, 11, 12, 13, 14, 15, 16, 17, 18, 19, 20, 21, 22, 23, 24, 25, 26, 27, 28, 29, 30, 31, 32, 33, 34, 35, 36, 37, 38, 39, 40, 41, 42, 43, 44, 45, 46, 47] (fun g h' => Ext (h.push (.cells #[.slice m.a m.casts.length m.ca, .slice m.b m.waits.length m.cb, .int .i64 m.lo, .int .i64 m.hi] 24)) h' ∧ ∃ r : Nat, r ≤ n ∧ g 6 = .int .i64 r ∧ g 5 = .int .i64 (nb (m.ov.rit (m.ov.rone i) r) : Nat)) (fun g _ => match g 6 with | .int _ q => n - q.toNat | _ => 0) ⟨Ext.refl _, 0, by omega, rfl, by show Value.int _ _ = _; rw [OV.rit, hone]⟩ ?_
  rintro g h' ⟨xx, r, hrn, hg6, hg5⟩
  have y1 := x0.trans xx
  have b1 := xx.get hb
  by_cases hr : r < n
  case neg =>
    obtain rfl : r = n := by omega
    have l0 : ¬ ((r : Int) < (m.casts.length : Int)) := by omega
    simp only [hg6, hg5, b1, l0, decide_false, splice, coreS, Value.cells, Value.oneCell', Nat.reduceAdd, Nat.reduceSub, Nat.reduceMul, Nat.reduceLeDiff, Int.reduceEq, Nat.reduceEqDiff, H51Fs97]
    exact ⟨by rw [OV.rch, hnn], y1⟩
  have l0 : (r : Int) < (m.casts.length : Int) := by omega
  simp only [hg6, hg5, b1, l0, decide_true, splice, coreS, Value.cells, Value.oneCell', Nat.reduceAdd, Nat.reduceSub, Nat.reduceMul, Nat.reduceLeDiff, Int.reduceEq, Nat.reduceEqDiff, H51Fs97]
  obtain ⟨R, hR⟩ : ∃ R, m.ov.rit (m.ov.rone i) r = R := ⟨_, rfl⟩
  have hRl : R.length = n := by rw [← hR, OV.rit_length, hl0]
  rw [hR]
  refine WP_loopI [5, 7, 17, 18, 19, 20, 21, 22, 23, 24, 25, 26, 27, 28, 29, 30, 31, 32, 33, 34, 35, 36, 37, 38, 39, 40, 41, 42, 43, 44, 45, 46, 47] (fun g h2 => Ext h' h2 ∧ ∃ x : Nat, x ≤ n ∧ g 7 = .int .i64 x ∧ g 5 = .int .i64 (nb (rfo m.ov R x) : Nat)) (fun g _ => match g 7 with | .int _ q => n - q.toNat | _ => 0) ⟨Ext.refl _, 0, by omega, rfl, rfl⟩ ?_
  rintro g2 h2 ⟨x2, x, hxn, hg7, hg5b⟩
  have y2 := y1.trans x2
  have b2 := x2.get b1
  by_cases hx : x < n
  case neg =>
    obtain rfl : x = n := by omega
    have l1 : ¬ ((x : Int) < (m.casts.length : Int)) := by omega
    simp only [hg7, hg5b, b2, l1, decide_false, splice, coreS, Value.cells, Value.oneCell', Nat.reduceAdd, Nat.reduceSub, Nat.reduceMul, Nat.reduceLeDiff, Int.reduceEq, Nat.reduceEqDiff, H51Fs97]
    refine ⟨by rw [inK_i64]; omega, roundK_mk (by kernel_rfl) ⟨xx.trans x2, r + 1, by omega, rfl, ?_⟩ ?_⟩
    · show Value.int _ _ = _
      rw [OV.rit, hR, OV.rpass, hnn]; rfl
    · show x - ((r : Int) + 1).toNat < x - (r : Int).toNat
      omega
  have l1 : (x : Int) < (m.casts.length : Int) := by omega
  have hsucc := rfo_succ m.ov R x
  have hfl := rfo_length m.ov R x
  rw [hRl] at hfl
  obtain ⟨F, hF⟩ : ∃ F, rfo m.ov R x = F := ⟨_, rfl⟩
  rw [hF] at hsucc hfl hg5b
  have ht := bit_test F x (by omega)
  have hFb := nb_lt F
  have hFp : 2 ^ F.length ≤ 2 ^ 16 := Nat.pow_le_pow_right (by decide) (by omega)
  have hwx : m.ov.w x < n := by have := gd.ok.wg x (by omega); omega
  have hcx : m.ov.c x < n := by have := gd.ok.cl x (by omega); omega
  have hm2 := hm.ext y2
  have cw := hm2.w.cell (j := x) (by omega)
  rw [gd.w x (by omega)] at cw
  have sw := hm2.w.isSome (by omega)
  have mlt : n - ((x : Int) + 1).toNat < n - (x : Int).toNat := by omega
  have canV : ∀ x : Nat, (decide (m.lo ≤ (x : Int)) && decide ((x : Int) ≤ m.hi)) = m.ov.can (x, x) := fun x => by rw [OV.can, gd.lo, gd.hi]; simp only [Int.ofNat_le]
  have shl : ∀ j : Nat, (1 : Int) * 2 ^ j = ((2 ^ j : Nat) : Int) := fun j => by rw [Int.one_mul, Int.natCast_pow]; rfl
  cases hbit : F.getD x false with
  | false =>
    rw [hbit] at ht
    have e2 : rfo m.ov R (x + 1) = F := by rw [hsucc, OV.rst, if_neg (by rw [hbit]; decide)]
    simp only [Bool.false_eq_true, if_false] at ht
    simp only [hg7, hg5b, b2, l1, ht, Int.toNat_natCast, decide_true, splice, coreS, Value.cells, Value.oneCell', Nat.reduceAdd, Nat.reduceSub, Nat.reduceMul, Nat.reduceLeDiff, Int.reduceEq, Nat.reduceEqDiff, H51Fs97]
    repeat (refine And.intro (by first | omega | (rw [inK_i64]; omega) | (show (x : Int) ≤ 64; omega) | rfl | assumption | decide) ?_)
    exact roundK_mk (by kernel_rfl) ⟨x2, x + 1, by omega, rfl, by show Value.int _ _ = _; rw [e2]⟩ mlt
  | true =>
    rw [hbit] at ht
    simp only [if_true] at ht
    have pw := p16 _ hwx
    have e3 := bits_or (nb F) (2 ^ m.ov.w x) (by omega) (by omega)
    rw [nb_or F (by omega)] at e3
    have shw := shl (m.ov.w x)
    obtain ⟨Z, hZ⟩ : ∃ Z, 2 ^ m.ov.w x = Z := ⟨_, rfl⟩
    rw [hZ] at pw e3 shw
    have hF2 := nb_lt (F.set (m.ov.w x) true)
    rw [List.length_set] at hF2
    simp only [hg7, hg5b, b2, l1, ht, cw, shw, e3, Int.toNat_natCast, decide_true, splice, coreS, Value.cells, Value.oneCell', Nat.reduceAdd, Nat.reduceSub, Nat.reduceMul, Nat.reduceLeDiff, Int.reduceEq, Nat.reduceEqDiff, H51Fs97]
    repeat (refine And.intro (by first | omega | (rw [inK_i64]; omega) | (show (x : Int) ≤ 64; omega) | (show (m.ov.w x : Int) ≤ 64; omega) | rfl | assumption | decide) ?_)
    try simp only [hg7, hg5b, b2, l1, ht, cw, shw, e3, Int.toNat_natCast, decide_true, splice, coreS, Value.cells, Value.oneCell', Nat.reduceAdd, Nat.reduceSub, Nat.reduceMul, Nat.reduceLeDiff, Int.reduceEq, Nat.reduceEqDiff, H51Fs97]
    rw [hval]
    refine CallsH.mono (can67 m x h2) ?_
    rintro v h3 ⟨rfl, x3⟩
    have y3 := y2.trans x3
    have b3 := x3.get b2
    rw [canV]
    cases hca : m.ov.can (x, x) with
    | false =>
      have e2 : rfo m.ov R (x + 1) = F.set (m.ov.w x) true := by rw [hsucc, OV.rst, if_pos hbit, if_neg (by rw [hca]; decide)]
      simp only [splice, coreS, Value.cells, Value.oneCell', Nat.reduceAdd, Nat.reduceSub, Nat.reduceMul, Nat.reduceLeDiff, Int.reduceEq, Nat.reduceEqDiff, H51Fs97]
      exact ⟨by rw [inK_i64]; omega, roundK_mk (by kernel_rfl) ⟨x2.trans x3, x + 1, by omega, rfl, by show Value.int _ _ = _; rw [e2]⟩ mlt⟩
    | true =>
      have e2 : rfo m.ov R (x + 1) = (F.set (m.ov.w x) true).set (m.ov.c x) true := by rw [hsucc, OV.rst, if_pos hbit, if_pos hca]
      have pc := p16 _ hcx
      have hm3 := hm.ext y3
      have cc := hm3.c.cell (j := x) (by omega)
      rw [gd.c x (by omega)] at cc
      have sc := hm3.c.isSome (by omega)
      have e4 := bits_or (nb (F.set (m.ov.w x) true)) (2 ^ m.ov.c x) (by omega) (by omega)
      rw [nb_or _ (by rw [List.length_set]; omega)] at e4
      have shc := shl (m.ov.c x)
      obtain ⟨Y, hY⟩ : ∃ Y, 2 ^ m.ov.c x = Y := ⟨_, rfl⟩
      rw [hY] at pc e4 shc
      simp only [b3, cc, shc, e4, Int.toNat_natCast, splice, coreS, Value.cells, Value.oneCell', Nat.reduceAdd, Nat.reduceSub, Nat.reduceMul, Nat.reduceLeDiff, Int.reduceEq, Nat.reduceEqDiff, H51Fs97]
      repeat (refine And.intro (by first | omega | (rw [inK_i64]; omega) | (show (m.ov.c x : Int) ≤ 64; omega) | rfl | assumption | decide) ?_)
      exact roundK_mk (by kernel_rfl) ⟨x2.trans x3, x + 1, by omega, rfl, by show Value.int _ _ = _; rw [e2]⟩ mlt
end Go.Proofs.YtafemfjhflfdeaaDoor
