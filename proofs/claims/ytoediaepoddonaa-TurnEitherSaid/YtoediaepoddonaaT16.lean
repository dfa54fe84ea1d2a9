/- Walks: Find, of the program and of the reference. -/
import Derived.Test.YtoediaepoddonaaT15
namespace Go.Proofs.Ytoediaepoddonaa
open Go Go.Proofs Go.Eng Go.Run Tab
set_option maxRecDepth 100000
set_option linter.unusedSimpArgs false
set_option linter.unusedVariables false
set_option maxHeartbeats 1000000
theorem mod_int (a b : Nat) : (a : Int).tmod b = ((a % b : Nat) : Int) := by rw [Int.tmod_eq_emod_of_nonneg (by omega)]; rfl
theorem fits88 (r b c t : Nat) (h : Eng.Heap) (hb : 0 < t) : CallsH Try.prog 88 #[.agg #[.int .i64 r, .int .i64 b], .agg #[.int .i64 c, .int .i64 t]] h (fun v h' => v = .bool (decide (r % Nat.gcd b t = c % Nat.gcd b t)) ∧ Ext h h') := by
  refine CallsH_of_exec Try.func88 rfl bod88 ?_
  simp only [Try.ntmps88, Try.results88, coreS, stK_some, splice, Value.cells, Value.oneCell', Nat.reduceAdd, Nat.reduceSub, Nat.reduceMul, Nat.reduceLeDiff, Int.reduceEq, Nat.reduceEqDiff, agg2, fo77_0, fo77_1, inf2, sz2]
  refine CallsH.mono (common81 b t _) ?_
  rintro v h1 ⟨rfl, rfl⟩
  have hg : 0 < Nat.gcd b t := Nat.gcd_pos_of_pos_right _ hb
  simp only [coreS, Value.cells, Value.oneCell', Nat.reduceAdd, Nat.reduceSub, Nat.reduceMul, Nat.reduceLeDiff, Int.reduceEq, Nat.reduceEqDiff, agg2, fo77_0, fo77_1, inf2, sz2]
  have q0 := push_old (o := .cells #[.int .i64 (c : Nat), .int .i64 (t : Nat)] 77) (push_new (h := h) (o := .cells #[.int .i64 (r : Nat), .int .i64 (b : Nat)] 77))
  have q1 := push_new (h := h.push (.cells #[.int .i64 (r : Nat), .int .i64 (b : Nat)] 77)) (o := .cells #[.int .i64 (c : Nat), .int .i64 (t : Nat)] 77)
  simp only [push_size] at q1
  refine WP_draw (by kernel_rfl) sta_eq [(0, 0), (1, 0), (2, 0), (3, 0), (4, 0), (5, 0), (6, 0), (7, 0), (8, 0), (9, 0)] (by kernel_rfl) rfl (by kernel_rfl) ?_
  simp only [q0, q1, hvK_eq, mod_int, coreS, Value.cells, Value.oneCell', Nat.reduceAdd, Nat.reduceSub, Nat.reduceMul, Nat.reduceLeDiff, Int.reduceEq, Nat.reduceEqDiff, drawS, agg2, fo77_0, fo77_1, inf2, sz2]
  repeat (refine And.intro (by first | omega | (rw [inK_i64]; omega) | rfl | assumption) ?_)
  refine ⟨?_, ((Ext.refl h).push _).push _⟩
  congr 1
  rw [decide_eq_decide]
  omega
theorem and66 (r b c t : Nat) (h : Eng.Heap) (hb : 0 < b) (hbm : b ≤ 1000000) (hr : r < b) (ht : t ≤ 12) (hc : c < t) :
    CallsH Try.prog 66 #[.agg #[.int .i64 r, .int .i64 b], .agg #[.int .i64 c, .int .i64 t]] h (fun v h' => Ext h h' ∧ ((∃ q : Nat × Nat, andF r b c t = some q ∧ v = .tuple #[.agg #[.int .i64 q.1, .int .i64 q.2], .bool true]) ∨ (andF r b c t = none ∧ v = .tuple #[.agg #[.int .i64 0, .int .i64 0], .bool false]))) := by
  have hg : 0 < Nat.gcd b t := Nat.gcd_pos_of_pos_right _ (by omega)
  have hb1 : b / Nat.gcd b t * t ≤ b * t := Nat.mul_le_mul_right _ (Nat.div_le_self _ _)
  have hb2 : b * t ≤ 1000000 * 12 := Nat.mul_le_mul hbm ht
  refine CallsH_of_exec Try.func66 rfl bod66 ?_
  simp only [Try.ntmps66, Try.results66, coreS, stK_some, splice, Value.cells, Value.oneCell', Nat.reduceAdd, Nat.reduceSub, Nat.reduceMul, Nat.reduceLeDiff, Int.reduceEq, Nat.reduceEqDiff, agg2, agg77, fo77_0, fo77_1, fps77_0, fps77_1, inf2, inf77, okf77, sz2, sz77, zero77]
  simp only [show ¬ (h.size = h.size + 1 + 1) by omega, if_false, coreS, Value.cells, Value.oneCell', Nat.reduceAdd, Nat.reduceSub, Nat.reduceMul, Nat.reduceLeDiff, Int.reduceEq, Nat.reduceEqDiff, agg2, agg77, fo77_0, fo77_1, fps77_0, fps77_1, inf2, inf77, okf77, sz2, sz77, zero77]
  refine CallsH.mono (fits88 r b c t _ (by omega)) ?_
  rintro v h1 ⟨rfl, x1⟩
  have q0 := x1.get (push_old (o := .cells #[.int .i64 0, .int .i64 0] 77) (push_old (o := .cells #[.int .i64 (c : Nat), .int .i64 (t : Nat)] 77) (push_new (h := h) (o := .cells #[.int .i64 (r : Nat), .int .i64 (b : Nat)] 77))))
  have q1 := x1.get (push_old (o := .cells #[.int .i64 0, .int .i64 0] 77) (push_new (h := h.push (.cells #[.int .i64 (r : Nat), .int .i64 (b : Nat)] 77)) (o := .cells #[.int .i64 (c : Nat), .int .i64 (t : Nat)] 77)))
  have q2 := x1.get (push_new (h := (h.push (.cells #[.int .i64 (r : Nat), .int .i64 (b : Nat)] 77)).push (.cells #[.int .i64 (c : Nat), .int .i64 (t : Nat)] 77)) (o := .cells #[.int .i64 0, .int .i64 0] 77))
  simp only [push_size] at q1 q2
  replace x1 := x1.of_push.of_push.of_push
  by_cases hf : r % Nat.gcd b t = c % Nat.gcd b t
  · obtain ⟨k0, hk0, hl, he, hlt⟩ := leastF_some ht hc hf
    have ha : andF r b c t = some (r + k0 * b, b / Nat.gcd b t * t) := by rw [andF, if_pos hf, hl]; rfl
    have hk0t : k0 < t := Nat.lt_of_lt_of_le hk0 (Nat.div_le_self _ _)
    have hkb : k0 * b ≤ 12 * 1000000 := Nat.mul_le_mul (by omega) hbm
    simp only [hf, decide_true, Bool.not_true, q0, q1, coreS, Value.cells, Value.oneCell', Nat.reduceAdd, Nat.reduceSub, Nat.reduceMul, Nat.reduceLeDiff, Int.reduceEq, Nat.reduceEqDiff, agg2, agg77, fo77_0, fo77_1, fps77_0, fps77_1, inf2, inf77, okf77, sz2, sz77, zero77]
    refine WP_loopI [6, 14, 15, 16, 17, 18, 19, 20, 21, 22, 23, 24] (fun g h' => h' = h1 ∧ ∃ k : Nat, k ≤ k0 ∧ g 6 = .int .i64 ((r + k * b : Nat) : Int)) (fun g _ => match g 6 with | .int _ m => r + k0 * b - m.toNat | _ => 0) ⟨rfl, 0, by omega, by simp⟩ ?_
    rintro g h' ⟨rfl, k, hk, hg6⟩
    have hkk : k * b ≤ k0 * b := Nat.mul_le_mul_right _ hk
    simp only [hg6, coreS, Value.cells, Value.oneCell', Nat.reduceAdd, Nat.reduceSub, Nat.reduceMul, Nat.reduceLeDiff, Int.reduceEq, Nat.reduceEqDiff, agg2, agg77, fo77_0, fo77_1, fps77_0, fps77_1, inf2, inf77, okf77, sz2, sz77, zero77]
    refine WP_draw (by kernel_rfl) sta_eq [(0, 0), (1, 0), (2, 0), (3, 0), (4, 0), (5, 0), (6, 0)] (by kernel_rfl) rfl (by kernel_rfl) ?_
    simp only [q0, q1, hvK_eq, mod_int, coreS, Value.cells, Value.oneCell', Nat.reduceAdd, Nat.reduceSub, Nat.reduceMul, Nat.reduceLeDiff, Int.reduceEq, Nat.reduceEqDiff, drawS, agg2, agg77, fo77_0, fo77_1, fps77_0, fps77_1, inf2, inf77, okf77, sz2, sz77, zero77]
    repeat (refine And.intro (by first | omega | (rw [inK_i64]; omega) | rfl | assumption) ?_)
    refine ⟨fun heq => ?_, fun hne => ?_⟩
    · have hkk0 : k = k0 := by
        rcases Nat.lt_or_ge k k0 with h2 | h2
        · exact absurd (by omega) (hlt k h2)
        · omega
      subst hkk0
      refine WP_draw (by kernel_rfl) sta_eq [(0, 0), (1, 0), (2, 0), (3, 0), (4, 0), (5, 0), (6, 0), (7, 0), (8, 0), (9, 0), (10, 0), (11, 0), (12, 0), (13, 1), (14, 0)] (by kernel_rfl) rfl (by kernel_rfl) ?_
      simp only [q0, q1, coreS, Value.cells, Value.oneCell', Nat.reduceAdd, Nat.reduceSub, Nat.reduceMul, Nat.reduceLeDiff, Int.reduceEq, Nat.reduceEqDiff, drawS, agg2, agg77, fo77_0, fo77_1, fps77_0, fps77_1, inf2, inf77, okf77, sz2, sz77, zero77]
      refine cQ_eq _ (common81 b t _) ?_
      have e2 : ((b / Nat.gcd b t : Nat) : Int) * (t : Int) = ((b / Nat.gcd b t * t : Nat) : Int) := by push_cast; rfl
      have hbd : b / Nat.gcd b t ≤ b := Nat.div_le_self _ _
      simp only [q0, q1, q2, div_int, splice, e2, coreS, Value.cells, Value.oneCell', Nat.reduceAdd, Nat.reduceSub, Nat.reduceMul, Nat.reduceLeDiff, Int.reduceEq, Nat.reduceEqDiff, drawS, agg2, agg77, fo77_0, fo77_1, fps77_0, fps77_1, inf2, inf77, okf77, sz2, sz77, zero77]
      generalize b / Nat.gcd b t = z at *
      repeat (refine And.intro (by first | omega | (rw [inK_i64]; omega) | rfl | assumption) ?_)
      refine stK_abs q2 (by simp) fun h2 g2 u2 => ?_
      simp only [splice, g2, hvK_eq, coreS, Value.cells, Value.oneCell', Nat.reduceAdd, Nat.reduceSub, Nat.reduceMul, Nat.reduceLeDiff, Int.reduceEq, Nat.reduceEqDiff, drawS, agg2, agg77, fo77_0, fo77_1, fps77_0, fps77_1, inf2, inf77, okf77, sz2, sz77, zero77]
      exact ⟨u2.ext x1 (by omega), .inl ⟨_, ha, rfl⟩⟩
    · 
      have e1 : ((r + k * b : Nat) : Int) + (b : Int) = ((r + (k + 1) * b : Nat) : Int) := by rw [Nat.add_mul, Nat.one_mul]; omega
      have hk1 : k < k0 := by
        rcases Nat.lt_or_ge k k0 with h2 | h2
        · exact h2
        · have : k = k0 := by omega
          subst this
          exact absurd (by omega) hne
      have hkk1 : (k + 1) * b ≤ k0 * b := Nat.mul_le_mul_right _ hk1
      have hkb1 : (k + 1) * b = k * b + b := by rw [Nat.add_mul, Nat.one_mul]
      rw [e1]
      refine ⟨by rw [inK_i64]; omega, roundK_mk (by kernel_rfl) ⟨rfl, k + 1, by omega, rfl⟩ ?_⟩
      show r + k0 * b - ((r + (k + 1) * b : Nat) : Int).toNat < r + k0 * b - ((r + k * b : Nat) : Int).toNat
      omega
  · have ha : andF r b c t = none := by rw [andF, if_neg hf]
    simp only [hf, decide_false, Bool.not_false, q2, coreS, Value.cells, Value.oneCell', Nat.reduceAdd, Nat.reduceSub, Nat.reduceMul, Nat.reduceLeDiff, Int.reduceEq, Nat.reduceEqDiff, agg2, agg77, fo77_0, fo77_1, fps77_0, fps77_1, inf2, inf77, okf77, sz2, sz77, zero77]
    refine stK_abs q2 (by simp) fun h2 g2 u2 => ?_
    simp only [splice, g2, coreS, Value.cells, Value.oneCell', Nat.reduceAdd, Nat.reduceSub, Nat.reduceMul, Nat.reduceLeDiff, Int.reduceEq, Nat.reduceEqDiff, agg2, agg77, fo77_0, fo77_1, fps77_0, fps77_1, inf2, inf77, okf77, sz2, sz77, zero77]
    exact ⟨u2.ext x1 (by omega), .inr ha⟩
/-- What Find answers. -/
def findR (shops : Int) (xs : List Int) : Int × Int × Int :=
  if begE shops xs = 0 then match findF shops.toNat (codeF (List.range shops.toNat) (natL xs)) with
    | some q => ((q.1 : Int) + 1, q.2, 0)
    | none => (0, 0, 5)
  else (0, 0, begE shops xs)
theorem drop_next {cs : List Nat} {i : Nat} (hi : i < cs.length) : cs.drop i = cs.getD i 0 :: cs.drop (i + 1) := by
  rw [List.drop_eq_getElem_cons hi, List.getD, List.getElem?_eq_getElem hi]; rfl
theorem find32 (shops : Int) (a : Option Addr) (n c : Nat) (xs : List Int) (h : Eng.Heap) (hv : IntsV h a n xs) (hl : n ≤ 1000000) :
    CallsH Try.prog 32 #[.int .i64 shops, .slice a n c] h (fun v h' => Ext h h' ∧ v = .tuple #[.int .i64 (findR shops xs).1, .int .i64 (findR shops xs).2.1, .int .i64 (findR shops xs).2.2]) := by
  have hn := hv.len
  refine CallsH_of_exec Try.func32 rfl bod32 ?_
  simp only [Try.ntmps32, Try.results32, coreS, stK_some, splice, Value.cells, Value.oneCell', Nat.reduceAdd, Nat.reduceSub, Nat.reduceMul, Nat.reduceLeDiff, Int.reduceEq, Nat.reduceEqDiff, agg2, agg3, agg77, by3, fo77_0, fo77_1, fps77_0, fps77_1, inf2, inf3, inf77, okf77, sz2, sz3, sz77, zero77, Try.underlying22]
  refine CallsH.mono (begun55 shops a n c xs h hv hl) ?_
  rintro v h1 ⟨x1, ⟨h0, b, rfl, hb, hb2⟩ | ⟨hne, rfl⟩⟩
  · have hf0 : findR shops xs = match findF shops.toNat (codeF (List.range shops.toNat) (natL xs)) with | some q => ((q.1 : Int) + 1, q.2, 0) | none => (0, 0, 5) := if_pos h0
    obtain ⟨k, rfl, hk1, hk2, hxl, hz, hbf⟩ := begE_ok h0
    have hfit := code_fits _ _ hbf
    rw [List.length_range] at hfit
    have hcl : (codeF (List.range k) (natL xs)).length = n := by rw [codeF_length, natL_length]; omega
    rw [Int.toNat_natCast] at hf0
    simp only [h0, splice, coreS, Value.cells, Value.oneCell', Nat.reduceAdd, Nat.reduceSub, Nat.reduceMul, Nat.reduceLeDiff, Int.reduceEq, Nat.reduceEqDiff, agg2, agg3, agg77, by3, fo77_0, fo77_1, fps77_0, fps77_1, inf2, inf3, inf77, okf77, sz2, sz3, sz77, zero77, Try.underlying22]
    have R0 := Rnd0.new hk1 hk2 hb
    have hv' := hv
    rw [← hz] at hv'
    have hbl := lt_of_get hb
    refine stK_abs push_new (by simp) fun h2 g2 u2 => ?_
    have x2 : Ext h h2 := u2.ext (x1.push _) x1.size
    have s2 : h2.size = h1.size + 1 := by rw [u2.size]; simp
    simp only [coreS, Value.cells, Value.oneCell', Nat.reduceAdd, Nat.reduceSub, Nat.reduceMul, Nat.reduceLeDiff, Int.reduceEq, Nat.reduceEqDiff, agg2, agg3, agg77, by3, fo77_0, fo77_1, fps77_0, fps77_1, inf2, inf3, inf77, okf77, sz2, sz3, sz77, zero77, Try.underlying22]
    refine CallsH.mono (code56 b k n c a (natL xs) h2 h hk1 hk2 (R0.get ?_) x2 hb2 hbf hv' (by rw [natL_length]; omega)) ?_
    · rw [u2.old b (by omega), push_get, if_neg (by omega)]
    rintro v h3 ⟨x3, ch3, bc, rfl, hbc, hc3⟩
    have hall : h3[h1.size]? = some (.cells #[.int .i64 0, .int .i64 1] 77) := ch3.get g2 (by omega)
    obtain ⟨cs, hcs⟩ : ∃ cs, cs = codeF (List.range k) (natL xs) := ⟨_, rfl⟩
    rw [← hcs] at hc3 hf0 hfit hcl
    have Ic := IntsV.block hc3
    rw [zs_length, hcl] at Ic
    rw [natL_length, ← hn]
    have hcase : findF k cs = none ∨ ∃ q, findF k cs = some q := by cases findF k cs with
      | none => exact .inl rfl
      | some q => exact .inr ⟨q, rfl⟩
    simp only [coreS, Value.cells, Value.oneCell', Nat.reduceAdd, Nat.reduceSub, Nat.reduceMul, Nat.reduceLeDiff, Int.reduceEq, Nat.reduceEqDiff, agg2, agg3, agg77, by3, fo77_0, fo77_1, fps77_0, fps77_1, inf2, inf3, inf77, okf77, sz2, sz3, sz77, zero77, Try.underlying22]
    have hs3 := ch3.size
    refine WP_loopI [4, 5, 6, 10, 11, 12, 13, 28, 29, 30, 31, 32, 33, 34, 35, 36, 37, 38, 39, 40, 41, 42, 43, 44, 45, 46] (fun g h' => ∃ (i r b : Nat), i ≤ n ∧ g 28 = .int .i64 i ∧ Chg h3 h' h1.size ∧ h'[h1.size]? = some (.cells #[.int .i64 r, .int .i64 b] 77) ∧ midP k cs i r b ∧ findG k i (cs.drop i) (r, b) = findF k cs) (fun g _ => match g 28 with | .int _ m => n - m.toNat | _ => 0) ?_ ?_
    · exact ⟨0, 0, 1, by omega, rfl, Chg.of_ext (Ext.refl _) _, hall, ⟨rfl, by omega, fun j hj => by omega⟩, rfl⟩
    · rintro g h' ⟨i, r, b2, hi, hg, ch, hall', hm, hfg⟩
      have hcb : h'[bc]? = some (.cells (ints (zs cs)).toArray 3) := ch.get hc3 (by omega)
      have Ic' := IntsV.block hcb
      rw [zs_length, hcl] at Ic'
      have xe : Ext h h' := Chg.fresh x3 ch x1.size
      simp only [hg, coreS, Value.cells, Value.oneCell', Nat.reduceAdd, Nat.reduceSub, Nat.reduceMul, Nat.reduceLeDiff, Int.reduceEq, Nat.reduceEqDiff, agg2, agg3, agg77, by3, fo77_0, fo77_1, fps77_0, fps77_1, inf2, inf3, inf77, okf77, sz2, sz3, sz77, zero77, Try.underlying22]
      refine ⟨fun hlt => ?_, fun hge => ?_⟩
      · have hil : i < cs.length := by omega
        have hiz : i < (zs cs).length := by rw [zs_length]; exact hil
        have hp := perF_le k i hk2 (by omega)
        have hcell := ints_getElem? (zs cs) i hiz
        rw [zs_get] at hcell
        have hci := fits_get _ _ _ hfit hil
        have e1 : (k : Int) - (i : Int) = ((k - i : Nat) : Int) := by omega
        simp only [hcb, hcell, hall', e1, splice, coreS, Value.cells, Value.oneCell', Nat.reduceAdd, Nat.reduceSub, Nat.reduceMul, Nat.reduceLeDiff, Int.reduceEq, Nat.reduceEqDiff, agg2, agg3, agg77, by3, fo77_0, fo77_1, fps77_0, fps77_1, inf2, inf3, inf77, okf77, sz2, sz3, sz77, zero77, Try.underlying22]
        repeat (refine And.intro (by first | omega | (rw [inK_i64]; omega) | rfl | assumption) ?_)
        have ⟨hb2', hr2, _⟩ := hm
        refine CallsH.mono (and66 r b2 (cs.getD i 0) (k - i) h' (by rw [hb2']; exact hp.2) (by rw [hb2']; omega) hr2 (by omega) hci) ?_
        have hstep := and_some (r := r) (b := b2) hk2 (show i < k by omega) hil hfit hm
        have hfg2 : findG k i (cs.drop i) (r, b2) = match andF r b2 (cs.getD i 0) (k - i) with | some q => findG k (i + 1) (cs.drop (i + 1)) q | none => none := by
          rw [drop_next hil]; rfl
        rintro v h4 ⟨x4, ⟨q, hq, rfl⟩ | ⟨hq, rfl⟩⟩
        · rw [hq] at hfg2
          have hall4 := x4.get hall'
          have s4 := x4.size
          have hl1 := lt_of_get hall'
          simp only [splice, coreS, Value.cells, Value.oneCell', Nat.reduceAdd, Nat.reduceSub, Nat.reduceMul, Nat.reduceLeDiff, Int.reduceEq, Nat.reduceEqDiff, agg2, agg3, agg77, by3, fo77_0, fo77_1, fps77_0, fps77_1, inf2, inf3, inf77, okf77, sz2, sz3, sz77, zero77, Try.underlying22]
          refine stK_abs push_new (by simp) fun h5 g5 u5 => ?_
          have hall5 : h5[h1.size]? = some (.cells #[.int .i64 r, .int .i64 b2] 77) := u5.get (push_old hall4) (by omega)
          simp only [splice, g5, hall5, coreS, Value.cells, Value.oneCell', Nat.reduceAdd, Nat.reduceSub, Nat.reduceMul, Nat.reduceLeDiff, Int.reduceEq, Nat.reduceEqDiff, agg2, agg3, agg77, by3, fo77_0, fo77_1, fps77_0, fps77_1, inf2, inf3, inf77, okf77, sz2, sz3, sz77, zero77, Try.underlying22]
          refine stK_abs hall5 (by simp) fun h6 g6 u6 => ?_
          simp only [splice, coreS, Value.cells, Value.oneCell', Nat.reduceAdd, Nat.reduceSub, Nat.reduceMul, Nat.reduceLeDiff, Int.reduceEq, Nat.reduceEqDiff, agg2, agg3, agg77, by3, fo77_0, fo77_1, fps77_0, fps77_1, inf2, inf3, inf77, okf77, sz2, sz3, sz77, zero77, Try.underlying22]
          have s3 := ch.size
          refine ⟨by rw [inK_i64]; omega, roundK_mk (by kernel_rfl) ⟨i + 1, q.1, q.2, by omega, rfl, ?_, g6, hstep.1 q hq, ?_⟩ ?_⟩
          · have c4 := ch.trans (Chg.of_ext (x4.push (.cells #[.int .i64 0, .int .i64 0] 77)) h1.size)
            exact (c4.upd_new u5 (by omega)).upd u6
          · rw [← hfg, hfg2]
          · show n - ((i : Int) + 1).toNat < n - (i : Int).toNat
            omega
        · rw [hq] at hfg2
          simp only [splice, coreS, Value.cells, Value.oneCell', Nat.reduceAdd, Nat.reduceSub, Nat.reduceMul, Nat.reduceLeDiff, Int.reduceEq, Nat.reduceEqDiff, agg2, agg3, agg77, by3, fo77_0, fo77_1, fps77_0, fps77_1, inf2, inf3, inf77, okf77, sz2, sz3, sz77, zero77, Try.underlying22]
          refine stK_abs push_new (by simp) fun h5 g5 u5 => ?_
          simp only [splice, coreS, Value.cells, Value.oneCell', Nat.reduceAdd, Nat.reduceSub, Nat.reduceMul, Nat.reduceLeDiff, Int.reduceEq, Nat.reduceEqDiff, agg2, agg3, agg77, by3, fo77_0, fo77_1, fps77_0, fps77_1, inf2, inf3, inf77, okf77, sz2, sz3, sz77, zero77, Try.underlying22]
          rw [← hfg, hfg2] at hf0
          rw [hf0]
          exact ⟨u5.ext ((xe.trans x4).push _) (by have := xe.size; have := x4.size; omega), rfl⟩
      · have hin : i = n := by omega
        subst hin
        rw [List.drop_eq_nil_iff.2 (by omega)] at hfg
        have hq : findF k cs = some (r, b2) := hfg.symm
        rw [hq] at hf0
        obtain ⟨hb2', hr2, _⟩ := hm
        have hp := perF_le k i hk2 (by omega)
        refine WP_draw (by kernel_rfl) sta_eq [(0, 0), (1, 0), (2, 0), (3, 0), (4, 0), (5, 0), (6, 0), (7, 0)] (by kernel_rfl) rfl (by kernel_rfl) ?_
        simp only [hall', hvK_eq, coreS, Value.cells, Value.oneCell', Nat.reduceAdd, Nat.reduceSub, Nat.reduceMul, Nat.reduceLeDiff, Int.reduceEq, Nat.reduceEqDiff, drawS, agg2, agg3, agg77, by3, fo77_0, fo77_1, fps77_0, fps77_1, inf2, inf3, inf77, okf77, sz2, sz3, sz77, zero77, Try.underlying22]
        repeat (refine And.intro (by first | omega | (rw [inK_i64]; omega) | rfl | assumption) ?_)
        rw [hf0]
  · simp only [hne, coreS, Value.cells, Value.oneCell', Nat.reduceAdd, Nat.reduceSub, Nat.reduceMul, Nat.reduceLeDiff, Int.reduceEq, Nat.reduceEqDiff, agg2, agg3, agg77, by3, fo77_0, fo77_1, fps77_0, fps77_1, inf2, inf3, inf77, okf77, sz2, sz3, sz77, zero77, Try.underlying22]
    have : findR shops xs = (0, 0, begE shops xs) := if_neg hne
    rw [this]
    exact ⟨x1, rfl⟩
/-- A step makes a code, by the reference. -/
theorem makes67 (n : Nat) (a : Option Addr) (k c : Nat) (cs : List Nat) (s : Nat) (h : Eng.Heap) (hv : IntsV h a k (zs cs)) (hk : k ≤ n) (hn : n ≤ 1000) (hs : s ≤ 1000000) :
    CallsH Try.prog 67 #[.int .i64 n, .slice a k c, .int .i64 ((s : Int) + 1)] h (fun v h' => ((v = .bool true ∧ makesP n cs s) ∨ (v = .bool false ∧ ¬ makesP n cs s)) ∧ h' = h) := by
  have hkl := hv.len
  rw [zs_length] at hkl
  refine CallsH_of_exec Try.func67 rfl bod67 ?_
  simp only [Try.ntmps67, Try.results67, coreS, stK_some, splice, Value.cells, Value.oneCell', Nat.reduceAdd, Nat.reduceSub, Nat.reduceMul, Nat.reduceLeDiff, Int.reduceEq, Nat.reduceEqDiff, agg3, by3, inf3, sz3, Try.underlying22]
  refine WP_loopI [6, 7, 8, 9, 10, 11, 12, 13, 14, 15, 16, 17, 18, 19, 20, 21, 22, 23, 24] (fun g h' => h' = h ∧ ∃ i : Nat, i ≤ k ∧ g 7 = .int .i64 i ∧ ∀ j < i, s % (n - j) = cs.getD j 0) (fun g _ => match g 7 with | .int _ m => k - m.toNat | _ => 0) ⟨rfl, 0, by omega, rfl, fun j hj => by omega⟩ ?_
  rintro g h' ⟨rfl, i, hi, hg, hno⟩
  simp only [hg, coreS, Value.cells, Value.oneCell', Nat.reduceAdd, Nat.reduceSub, Nat.reduceMul, Nat.reduceLeDiff, Int.reduceEq, Nat.reduceEqDiff, agg3, by3, inf3, sz3, Try.underlying22]
  refine ⟨fun hlt => ?_, fun hge => ?_⟩
  · have hil : i < (zs cs).length := by rw [zs_length]; omega
    have e1 : (n : Int) - (i : Int) = ((n - i : Nat) : Int) := by omega
    have e2 : (s : Int) + 1 - 1 = (s : Int) := by omega
    refine WP_draw (by kernel_rfl) sta_eq [(0, 0), (1, 0), (2, 0), (3, 0), (4, 0), (5, 0), (6, 0), (7, 0), (8, 0), (9, 0), (10, 0)] (by kernel_rfl) rfl (by kernel_rfl) ?_
    simp only [hv.cell hil, zs_get, e1, e2, mod_int, hvK_eq, coreS, Value.cells, Value.oneCell', Nat.reduceAdd, Nat.reduceSub, Nat.reduceMul, Nat.reduceLeDiff, Int.reduceEq, Nat.reduceEqDiff, drawS, agg3, by3, inf3, sz3, Try.underlying22]
    repeat (refine And.intro (by first | omega | (rw [inK_i64]; omega) | rfl | assumption | (exact hv.isSome (by omega))) ?_)
    refine ⟨fun he => ⟨by rw [inK_i64]; omega, roundK_mk (by kernel_rfl) ⟨rfl, i + 1, by omega, rfl, fun j hj => ?_⟩ ?_⟩, fun he => ?_⟩
    · rcases Nat.lt_or_ge j i with h3 | h3
      · exact hno j h3
      · have : j = i := by omega
        subst this
        omega
    · show k - ((i : Int) + 1).toNat < k - (i : Int).toNat
      omega
    · exact .inr fun H => he (by rw [H i (by omega)])
  · exact .inl fun j hj => hno j (by omega)
theorem findR33 (shops : Int) (a : Option Addr) (n c : Nat) (xs : List Int) (h : Eng.Heap) (hv : IntsV h a n xs) (hc : n ≤ c) (hl : n ≤ 1000000) :
    CallsH Try.prog 33 #[.int .i64 shops, .slice a n c] h (fun v h' => Ext h h' ∧ v = .tuple #[.int .i64 (findR shops xs).1, .int .i64 (findR shops xs).2.1, .int .i64 (findR shops xs).2.2]) := by
  have hn := hv.len
  refine CallsH_of_exec Try.func33 rfl bod33 ?_
  simp only [Try.ntmps33, Try.results33, coreS, stK_some, splice, Value.cells, Value.oneCell', Nat.reduceAdd, Nat.reduceSub, Nat.reduceMul, Nat.reduceLeDiff, Int.reduceEq, Nat.reduceEqDiff, Try.underlying22]
  refine CallsH.mono (begunError57 shops a n c xs h hv hc hl) ?_
  rintro v h1 ⟨rfl, rfl⟩
  by_cases h0 : begE shops xs = 0
  · have hf0 : findR shops xs = match findF shops.toNat (codeF (List.range shops.toNat) (natL xs)) with | some q => ((q.1 : Int) + 1, q.2, 0) | none => (0, 0, 5) := if_pos h0
    obtain ⟨k, rfl, hk1, hk2, hxl, hz, hbf⟩ := begE_ok h0
    have hfit := code_fits _ _ hbf
    rw [List.length_range] at hfit
    have hcl : (codeF (List.range k) (natL xs)).length = n := by rw [codeF_length, natL_length]; omega
    rw [Int.toNat_natCast] at hf0
    simp only [h0, coreS, Value.cells, Value.oneCell', Nat.reduceAdd, Nat.reduceSub, Nat.reduceMul, Nat.reduceLeDiff, Int.reduceEq, Nat.reduceEqDiff, Try.underlying22]
    refine CallsH.mono (period47 k n h1 hk2 (by omega)) ?_
    rintro v h2 ⟨rfl, rfl⟩
    simp only [coreS, Value.cells, Value.oneCell', Nat.reduceAdd, Nat.reduceSub, Nat.reduceMul, Nat.reduceLeDiff, Int.reduceEq, Nat.reduceEqDiff, Try.underlying22]
    have hv' := hv
    rw [← hz] at hv'
    refine CallsH.mono (codeOf58 k a n c (natL xs) h2 hv' hbf (by omega) (by omega)) ?_
    rintro v h3 ⟨x3, a3, c3, rfl, O3⟩
    obtain ⟨cs, hcs⟩ : ∃ cs, cs = codeF (List.range k) (natL xs) := ⟨_, rfl⟩
    rw [← hcs] at O3 hf0 hfit hcl
    rw [zs_length, hcl] at O3
    have hp := perF_le k n hk2 (by omega)
    have hall := find_some hk2 (by omega) hfit
    rw [hcl] at hall
    simp only [← hcs, zs_length, hcl, coreS, Value.cells, Value.oneCell', Nat.reduceAdd, Nat.reduceSub, Nat.reduceMul, Nat.reduceLeDiff, Int.reduceEq, Nat.reduceEqDiff, Try.underlying22]
    refine WP_loopI [4, 5, 6, 9, 24, 25, 26, 27, 28, 29, 30, 31, 32, 33, 34] (fun g h' => h' = h3 ∧ ∃ s : Nat, s ≤ perF k n ∧ g 9 = .int .i64 ((s : Int) + 1) ∧ ∀ j < s, ¬ makesP k cs j) (fun g _ => match g 9 with | .int _ m => perF k n + 1 - m.toNat | _ => 0) ⟨rfl, 0, by omega, rfl, fun j hj => by omega⟩ ?_
    rintro g h' ⟨rfl, s, hs, hg, hno⟩
    simp only [hg, coreS, Value.cells, Value.oneCell', Nat.reduceAdd, Nat.reduceSub, Nat.reduceMul, Nat.reduceLeDiff, Int.reduceEq, Nat.reduceEqDiff, Try.underlying22]
    refine ⟨fun hle => ?_, fun hgt => ?_⟩
    · refine CallsH.mono (makes67 k a3 n c3 cs s h' O3.ints (by omega) (by omega) (by omega)) ?_
      rintro v h4 ⟨⟨rfl, hm⟩ | ⟨rfl, hm⟩, rfl⟩
      · simp only [hg, coreS, Value.cells, Value.oneCell', Nat.reduceAdd, Nat.reduceSub, Nat.reduceMul, Nat.reduceLeDiff, Int.reduceEq, Nat.reduceEqDiff, Try.underlying22]
        have hq : findF k cs = some (s, perF k n) := by
          cases hq : findF k cs with
          | none =>
            obtain ⟨i, hi, j, hj, hcl2⟩ := hall.2 hq
            exact absurd hcl2 (makes_clash hm hj (by omega))
          | some q =>
            obtain ⟨q1, q2, q3⟩ := hall.1 q hq
            have hmq : makesP k cs q.1 := fun j hj => q3 j (by omega)
            have := (makes_iff hk2 (by omega) hmq s).1 hm
            rw [hcl] at this
            rw [Nat.mod_eq_of_lt (by omega), Nat.mod_eq_of_lt (by omega)] at this
            obtain ⟨q1', q2'⟩ := q
            simp only at this q1
            rw [this, ← q1]
        rw [hq] at hf0
        rw [hf0]
        exact ⟨x3, rfl⟩
      · simp only [hg, coreS, Value.cells, Value.oneCell', Nat.reduceAdd, Nat.reduceSub, Nat.reduceMul, Nat.reduceLeDiff, Int.reduceEq, Nat.reduceEqDiff, Try.underlying22]
        refine ⟨by rw [inK_i64]; omega, roundK_mk (by kernel_rfl) ⟨rfl, s + 1, by omega, by show Value.int _ _ = Value.int _ _; congr 1, fun j hj => ?_⟩ ?_⟩
        · rcases Nat.lt_or_ge j s with h5 | h5
          · exact hno j h5
          · have : j = s := by omega
            subst this
            exact hm
        · show perF k n + 1 - ((s : Int) + 1 + 1).toNat < perF k n + 1 - ((s : Int) + 1).toNat
          omega
    · have hq : findF k cs = none := by
        cases hq : findF k cs with
        | none => rfl
        | some q =>
          obtain ⟨q1, q2, q3⟩ := hall.1 q hq
          exact absurd (fun j hj => q3 j (by omega)) (hno q.1 (by omega))
      rw [hq] at hf0
      rw [hf0]
      exact ⟨x3, rfl⟩
  · simp only [h0, coreS, Value.cells, Value.oneCell', Nat.reduceAdd, Nat.reduceSub, Nat.reduceMul, Nat.reduceLeDiff, Int.reduceEq, Nat.reduceEqDiff, Try.underlying22]
    refine CallsH.mono (begunError57 shops a n c xs h1 hv hc hl) ?_
    rintro v h2 ⟨rfl, rfl⟩
    simp only [coreS, Value.cells, Value.oneCell', Nat.reduceAdd, Nat.reduceSub, Nat.reduceMul, Nat.reduceLeDiff, Int.reduceEq, Nat.reduceEqDiff, Try.underlying22]
    have : findR shops xs = (0, 0, begE shops xs) := if_neg h0
    rw [this]
    exact ⟨Ext.refl _, rfl⟩
end Go.Proofs.Ytoediaepoddonaa
