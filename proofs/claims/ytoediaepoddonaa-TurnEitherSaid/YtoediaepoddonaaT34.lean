/- Walks: TurnEither. -/
import Derived.Test.YtoediaepoddonaaL8
namespace Go.Proofs.Ytoediaepoddonaa
open Go Go.Proofs Go.Eng Go.Run Tab
set_option maxRecDepth 100000
set_option linter.unusedSimpArgs false
set_option linter.unusedVariables false
set_option maxHeartbeats 8000000
theorem turnEither7 (a b c d e f g : Int) (h : Eng.Heap) (ha : 0 ≤ a ∧ a ≤ 255) (hb : 0 ≤ b ∧ b ≤ 4294967295) (hc : 0 ≤ c ∧ c ≤ 255) (hd : 0 ≤ d ∧ d ≤ 255) (he : 0 ≤ e ∧ e ≤ 255) (hf : 0 ≤ f ∧ f ≤ 4294967295) (hg : 0 ≤ g ∧ g ≤ 255) :
    CallsH Try.prog 7 #[.int .u8 a, .int .u32 b, .int .u8 c, .int .u8 d, .int .u8 e, .int .u32 f, .int .u8 g] h (fun v h' => v = .bool true ∧ Ext h h') := by
  refine CallsH_of_exec Try.func7 rfl bod7 ?_
  simp only [Try.ntmps7, Try.results7, coreS, stK_some, splice, Value.cells, Value.oneCell', Nat.reduceAdd, Nat.reduceSub, Nat.reduceMul, Nat.reduceLeDiff, Int.reduceEq, Nat.reduceEqDiff, by3, inf3, sz3, Try.underlying2, Try.underlying3, Try.underlying5, Try.underlying22, Try.underlying47]
  refine CallsH.mono (shops44 a _ ha.1 ha.2) ?_
  rintro v h1 ⟨rfl, rfl⟩
  obtain ⟨n, hn⟩ : ∃ n : Nat, 1 + a % 12 = n := ⟨(1 + a % 12).toNat, by omega⟩
  rw [hn]
  have hn1 : 1 ≤ n ∧ n ≤ 12 := by omega
  simp only [coreS, Value.cells, Value.oneCell', Nat.reduceAdd, Nat.reduceSub, Nat.reduceMul, Nat.reduceLeDiff, Int.reduceEq, Nat.reduceEqDiff, by3, inf3, sz3, Try.underlying2, Try.underlying3, Try.underlying5, Try.underlying22, Try.underlying47]
  obtain ⟨p, hp⟩ : ∃ p : Nat, (p : Int) = c % (n + 1) := ⟨(c % (n + 1)).toNat, by rw [Int.toNat_of_nonneg (Int.emod_nonneg _ (by omega))]⟩
  have hp1 : p ≤ n := by have := Int.emod_lt_of_pos c (show (0 : Int) < n + 1 by omega); omega
  have ep : c.tmod (n + 1) = (p : Int) := by rw [Int.tmod_eq_emod_of_nonneg hc.1, hp]
  refine WP_draw (by kernel_rfl) sta_eq [(0, 0), (1, 0), (3, 3), (4, 3), (5, 3), (6, 3), (7, 3), (2, 1), (8, 0), (9, 0)] (by kernel_rfl) rfl (by kernel_rfl) ?_
  simp only [ep, hvK_eq, coreS, Value.cells, Value.oneCell', Nat.reduceAdd, Nat.reduceSub, Nat.reduceMul, Nat.reduceLeDiff, Int.reduceEq, Nat.reduceEqDiff, drawS, by3, inf3, sz3, Try.underlying2, Try.underlying3, Try.underlying5, Try.underlying22, Try.underlying47]
  refine ⟨by rw [inK_i64]; omega, by rw [inK_i64]; omega, by omega, ?_⟩
  refine CallsH.mono (ordered45 n b _ hn1.1 hn1.2 hb.1 hb.2) ?_
  rintro v h2 ⟨x2, a2, k2, c2, rfl, hk2, hc2, x, hx, I2⟩
  subst hk2
  have tA : ((p : Int) - ((0 : Nat) : Int)).toNat = p - 0 := by omega
  simp only [tA, coreS, Value.cells, Value.oneCell', Nat.reduceAdd, Nat.reduceSub, Nat.reduceMul, Nat.reduceLeDiff, Int.reduceEq, Nat.reduceEqDiff, drawS, by3, inf3, sz3, Try.underlying2, Try.underlying3, Try.underlying5, Try.underlying22, Try.underlying47]
  clear hp ep hn
  repeat (refine And.intro (by first | omega | (rw [inK_i64]; omega) | rfl | assumption) ?_)
  have hxl := isOrd_len hx
  have hbx := begF_perm hx List.nodup_range
  obtain ⟨cs, hcs⟩ : ∃ cs, cs = codeF (List.range k2) x := ⟨_, rfl⟩
  have hcl : cs.length = k2 := by rw [hcs, codeF_length, hxl]
  have hfit : fits k2 cs := by have := code_fits x _ hbx; rw [List.length_range] at this; rw [hcs]; exact this
  have Il := intsV_slice (c := c2) I2 (Nat.zero_le p) hp1 hc2
  have be : begE k2 (zs (x.take p)) = 0 := begE_beg hn1.1 hn1.2 (begF_take hbx p) (by rw [List.length_take]; omega)
  have hfr : findR k2 (zs (x.take p)) = match findF k2 (cs.take p) with | some q => ((q.1 : Int) + 1, (q.2 : Int), 0) | none => (0, 0, 5) := by
    rw [findR, if_pos be, Int.toNat_natCast, natL_zs, codeF_take, ← hcs]
    rfl
  have hcr : clashR k2 (zs (x.take p)) = match clashF k2 (cs.take p) with | some p => ((p.1 : Int), (p.2 : Int), 0) | none => (0, 0, 5) := by
    rw [clashR, if_pos be, Int.toNat_natCast, natL_zs, codeF_take, ← hcs]
    rfl
  have hck : ∀ o t : Nat, o < t → t < p → chkC k2 (zs (x.take p)) o t = if clashP k2 (cs.take p) o t then 0 else 14 := fun o t h1 h2 => by
    rw [chkC, if_pos be, if_pos ⟨by omega, by omega, by rw [zs_length, List.length_take]; omega⟩, Int.toNat_natCast, natL_zs, codeF_take, ← hcs, Int.toNat_natCast, Int.toNat_natCast]
  have la : (cs.take p).length = p := by rw [List.length_take]; omega
  have hmk := fun (s : Int) (hs : 1 ≤ s) => round_begin hs hx hcs hp1
  simp only [Nat.sub_zero, List.drop_zero, zs_take] at Il
  obtain ⟨al, hal⟩ : ∃ al, al = (if (c2 : Int) = ((0 : Nat) : Int) then a2 else eltP a2 0) := ⟨_, rfl⟩
  obtain ⟨cl, hcl2⟩ : ∃ cl, cl = ((c2 : Int) - ((0 : Nat) : Int)).toNat := ⟨_, rfl⟩
  have hcl3 : p ≤ cl := by omega
  rw [← hal] at Il
  simp only [← hal, ← hcl2, Nat.sub_zero]
  clear hal hcl2
  refine CallsH.mono (find32 k2 al p cl _ h2 Il (by omega)) ?_
  rintro v h3 ⟨x3, rfl⟩
  simp only [coreS, Value.cells, Value.oneCell', Nat.reduceAdd, Nat.reduceSub, Nat.reduceMul, Nat.reduceLeDiff, Int.reduceEq, Nat.reduceEqDiff, by3, inf3, sz3, Try.underlying2, Try.underlying3, Try.underlying5, Try.underlying22, Try.underlying47]
  refine CallsH.mono (clash34 k2 al p cl _ h3 (Il.ext x3) (by omega)) ?_
  rintro v h4 ⟨x4, rfl⟩
  have x24 := x3.trans x4
  simp only [coreS, Value.cells, Value.oneCell', Nat.reduceAdd, Nat.reduceSub, Nat.reduceMul, Nat.reduceLeDiff, Int.reduceEq, Nat.reduceEqDiff, by3, inf3, sz3, Try.underlying2, Try.underlying3, Try.underlying5, Try.underlying22, Try.underlying47]
  refine ⟨fun hgt => ?_, fun hle => ?_⟩
  obtain ⟨o, ho⟩ : ∃ o : Nat, (o : Int) = d % ((p : Int) - 1) := ⟨(d % ((p : Int) - 1)).toNat, by rw [Int.toNat_of_nonneg (Int.emod_nonneg _ (by omega))]⟩
  have ho1 : (o : Int) < (p : Int) - 1 := by rw [ho]; exact Int.emod_lt_of_pos d (by omega)
  obtain ⟨w, hw⟩ : ∃ w : Nat, (w : Int) = e % ((p : Int) - 1 - (o : Int)) := ⟨(e % ((p : Int) - 1 - (o : Int))).toNat, by rw [Int.toNat_of_nonneg (Int.emod_nonneg _ (by omega))]⟩
  have hw1 : (w : Int) < (p : Int) - 1 - (o : Int) := by rw [hw]; exact Int.emod_lt_of_pos e (by omega)
  have eo : d.tmod ((p : Int) - 1) = (o : Int) := by rw [Int.tmod_eq_emod_of_nonneg hd.1, ho]
  have ew : e.tmod ((p : Int) - 1 - (o : Int)) = (w : Int) := by rw [Int.tmod_eq_emod_of_nonneg he.1, hw]
  have et : (o : Int) + 1 + (w : Int) = ((o + 1 + w : Nat) : Int) := by omega
  simp only [eo, ew, et, coreS, Value.cells, Value.oneCell', Nat.reduceAdd, Nat.reduceSub, Nat.reduceMul, Nat.reduceLeDiff, Int.reduceEq, Nat.reduceEqDiff, by3, inf3, sz3, Try.underlying2, Try.underlying3, Try.underlying5, Try.underlying22, Try.underlying47]
  clear eo ew ho hw
  refine ⟨by rw [inK_i64]; omega, by rw [inK_i64]; omega, by omega, by rw [inK_i64]; omega, by rw [inK_i64]; omega, by rw [inK_i64]; omega, by rw [inK_i64]; omega, by omega, by rw [inK_i64]; omega, ?_⟩
  refine CallsH.mono (checkClash36 k2 al p cl _ _ _ h4 (Il.ext x24) (by omega) (by omega)) ?_
  rintro v h5 ⟨rfl, x5⟩
  have hown := hck o (o + 1 + w) (by omega) (by omega)
  obtain ⟨own, hown2⟩ : ∃ own, own = chkC k2 (zs (x.take p)) o ((o + 1 + w : Nat) : Int) := ⟨_, rfl⟩
  rw [← hown2] at hown ⊢
  have hoa : own = 0 ∨ own = 14 := by rw [hown]; split <;> simp
  have hob : clashF k2 (cs.take p) = none → own = 14 := fun hn => by
    rw [hown, if_neg]
    exact clashF_none hn (by omega) (by rw [la]; omega)
  clear hown hown2 hgt
  simp only [coreS, Value.cells, Value.oneCell', Nat.reduceAdd, Nat.reduceSub, Nat.reduceMul, Nat.reduceLeDiff, Int.reduceEq, Nat.reduceEqDiff, by3, inf3, sz3, Try.underlying2, Try.underlying3, Try.underlying5, Try.underlying22, Try.underlying47]
  rotate_left
  obtain ⟨h5, x5, hh⟩ : ∃ h5, Ext h4 h5 ∧ h5 = h4 := ⟨h4, Ext.refl _, rfl⟩
  obtain ⟨own, hown⟩ : ∃ own : Int, own = 14 := ⟨14, rfl⟩
  have hoa : own = 0 ∨ own = 14 := .inr hown
  have hob : clashF k2 (cs.take p) = none → own = 14 := fun _ => hown
  rw [← hh]
  all_goals
    have x25 := x24.trans x5
    have Il5 := Il.ext x25
    have ef : f.tmod 30000 = f % 30000 := Int.tmod_eq_emod_of_nonneg hf.1
    obtain ⟨s, hs⟩ : ∃ s : Int, s = f % 30000 + 1 := ⟨_, rfl⟩
    have hs1 : 1 ≤ s ∧ s ≤ 30000 := by omega
    have o1 : openE (k2 : Int) [s] = 0 := openE_ok (by omega) (by omega) (by omega) (by omega)
    simp only [ef, ← hs, coreS, Value.cells, Value.oneCell', Nat.reduceAdd, Nat.reduceSub, Nat.reduceMul, Nat.reduceLeDiff, Int.reduceEq, Nat.reduceEqDiff, by3, inf3, sz3, Try.underlying2, Try.underlying3, Try.underlying5, Try.underlying22, Try.underlying47]
    repeat (refine And.intro (by first | omega | (rw [inK_i64]; omega) | rfl | assumption) ?_)
    clear ef hs
    refine CallsH.mono (roundP26 k2 s _) ?_
    rintro v h6 ⟨x6, a6, m6, c6, rfl, _, l6, I6⟩
    rw [roundZ_ok o1, Int.toNat_natCast] at I6
    have hl6 := I6.len.symm
    rw [zs_length, roundL_length] at hl6
    subst hl6
    have J5 := Il5.ext x6
    simp only [o1, coreS, Value.cells, Value.oneCell', Nat.reduceAdd, Nat.reduceSub, Nat.reduceMul, Nat.reduceLeDiff, Int.reduceEq, Nat.reduceEqDiff, by3, inf3, sz3, Try.underlying2, Try.underlying3, Try.underlying5, Try.underlying22, Try.underlying47]
    refine CallsH.mono (isOrder46 _ k2 _ _ _ I6 (by omega) l6 (isOrd_perm (round_perm k2 s))) ?_
    rintro v h7 ⟨rfl, rfl⟩
    have hms := hmk s hs1.1
    cases hqa : findF k2 (cs.take p) with
    | none =>
      obtain ⟨q, hq⟩ := (find_none_iff hn1.2 (by omega) (fits_cut p hfit)).1 hqa
      obtain ⟨q1, q2, q3⟩ := clashF_some hq
      rw [la] at q2
      have hckq := hck q.1 q.2 q1 q2
      rw [if_pos q3] at hckq
      have hno : ¬ zs ((roundL k2 s).take p) = zs (x.take p) := fun he => makes_clash (hms.1 he) q1 (by omega) q3
      rw [hqa] at hfr
      rw [hq] at hcr
      rcases hoa with ho | ho
      all_goals
        simp only [hfr, hcr, ho, coreS, Value.cells, Value.oneCell', Nat.reduceAdd, Nat.reduceSub, Nat.reduceMul, Nat.reduceLeDiff, Int.reduceEq, Nat.reduceEqDiff, by3, inf3, sz3, Try.underlying2, Try.underlying3, Try.underlying5, Try.underlying22, Try.underlying47]
        refine CallsH.mono (checkClash36 k2 al p cl _ _ _ h7 J5 (by omega) (by omega)) ?_
        rintro v h8 ⟨rfl, x8⟩
        simp only [hckq, coreS, Value.cells, Value.oneCell', Nat.reduceAdd, Nat.reduceSub, Nat.reduceMul, Nat.reduceLeDiff, Int.reduceEq, Nat.reduceEqDiff, by3, inf3, sz3, Try.underlying2, Try.underlying3, Try.underlying5, Try.underlying22, Try.underlying47]
        refine CallsH.mono (checkClash37 k2 al p cl _ _ _ h8 (J5.ext x8) hcl3 (by omega)) ?_
        rintro v h9 ⟨rfl, x9⟩
        simp only [hckq, coreS, Value.cells, Value.oneCell', Nat.reduceAdd, Nat.reduceSub, Nat.reduceMul, Nat.reduceLeDiff, Int.reduceEq, Nat.reduceEqDiff, by3, inf3, sz3, Try.underlying2, Try.underlying3, Try.underlying5, Try.underlying22, Try.underlying47]
        refine ⟨by omega, by omega, by omega, by omega, ?_⟩
        rw [tA]
        refine CallsH.mono (ints25 _ al _ _ _ _ _ _ _ (intsV_slice (c := c6) (I6.ext (x8.trans x9)) (Nat.zero_le p) hp1 l6) (J5.ext (x8.trans x9)) (by omega)) ?_
        rintro v h10 ⟨rfl, rfl⟩
        simp only [List.drop_zero, Nat.sub_zero, zs_take, hno, decide_false, Bool.not_false, coreS, Value.cells, Value.oneCell', Nat.reduceAdd, Nat.reduceSub, Nat.reduceMul, Nat.reduceLeDiff, Int.reduceEq, Nat.reduceEqDiff, by3, inf3, sz3, Try.underlying2, Try.underlying3, Try.underlying5, Try.underlying22, Try.underlying47]
        refine CallsH.mono (works18 _) ?_
        rintro v h11 ⟨rfl, x11⟩
        simp only [coreS, Value.cells, Value.oneCell', Nat.reduceAdd, Nat.reduceSub, Nat.reduceMul, Nat.reduceLeDiff, Int.reduceEq, Nat.reduceEqDiff, by3, inf3, sz3, Try.underlying2, Try.underlying3, Try.underlying5, Try.underlying22, Try.underlying47]
        exact ((((x2.trans x25).trans x6).trans x8).trans x9).trans x11
    | some qa =>
      obtain ⟨m1, m2, m3⟩ := find_mid hn1.2 (by omega) (fits_cut p hfit) hqa
      rw [la] at m1
      have hper := perF_le2 k2 p hn1.2 hp1
      have hca : clashF k2 (cs.take p) = none := by
        cases hq : clashF k2 (cs.take p) with
        | none => rfl
        | some q =>
          have := (find_none_iff hn1.2 (by omega) (fits_cut p hfit)).2 ⟨q, hq⟩
          rw [hqa] at this
          cases this
      have ho := hob hca
      rw [hqa] at hfr
      rw [hca] at hcr
      have hmi := makes_iff hn1.2 (show (cs.take p).length ≤ k2 by omega) m3 (s - 1).toNat
      rw [la, ← m1] at hmi
      obtain ⟨r, P0⟩ := qa
      simp only at m1 m2 m3 hmi hfr
      have f1 : ¬ ((r : Int) + 1 < 1) := by omega
      have f2 : ¬ ((P0 : Int) < (r : Int) + 1) := by omega
      have hst : s.tmod (P0 : Int) = ((r : Int) + 1).tmod (P0 : Int) ↔ zs ((roundL k2 s).take p) = zs (x.take p) := by
        rw [hms, hmi]
        obtain ⟨t, rfl⟩ : ∃ t : Nat, s = (t : Int) + 1 := ⟨(s - 1).toNat, by omega⟩
        have e1 : ((t : Int) + 1 - 1).toNat = t := by omega
        have e2 : (t : Int) + 1 = ((t + 1 : Nat) : Int) := rfl
        have e3 : (r : Int) + 1 = ((r + 1 : Nat) : Int) := rfl
        rw [e1, e2, e3, mod_int, mod_int]
        constructor
        · intro h
          have h : (t + 1) % P0 = (r + 1) % P0 := by omega
          have h2 : (t + 1 + (P0 - 1)) % P0 = (r + 1 + (P0 - 1)) % P0 := by rw [Nat.add_mod, h, ← Nat.add_mod]
          rw [show t + 1 + (P0 - 1) = t + P0 by omega, show r + 1 + (P0 - 1) = r + P0 by omega, Nat.add_mod_right, Nat.add_mod_right] at h2
          exact h2
        · intro h
          have : (t + 1) % P0 = (r + 1) % P0 := by rw [Nat.add_mod, h, ← Nat.add_mod]
          omega
      simp only [hfr, hcr, ho, coreS, Value.cells, Value.oneCell', Nat.reduceAdd, Nat.reduceSub, Nat.reduceMul, Nat.reduceLeDiff, Int.reduceEq, Nat.reduceEqDiff, by3, inf3, sz3, Try.underlying2, Try.underlying3, Try.underlying5, Try.underlying22, Try.underlying47]
      refine WP_draw (by kernel_rfl) sta_eq [(0, 0), (1, 0), (2, 0), (3, 0), (4, 0), (5, 0), (6, 0), (7, 0), (8, 0), (9, 0), (10, 0), (11, 0), (12, 0), (13, 0), (14, 0), (15, 0), (16, 0), (17, 0), (18, 0), (19, 0), (20, 0), (21, 0), (22, 0), (23, 0), (24, 0), (25, 0), (26, 0), (27, 0), (28, 0), (29, 0), (30, 0), (31, 0), (32, 0), (33, 0), (34, 0), (35, 0), (36, 0), (37, 0), (38, 0)] (by kernel_rfl) rfl (by kernel_rfl) ?_
      simp only [f1, f2, decide_true, decide_false, Bool.not_true, Bool.not_false, coreS, Value.cells, Value.oneCell', Nat.reduceAdd, Nat.reduceSub, Nat.reduceMul, Nat.reduceLeDiff, Int.reduceEq, Nat.reduceEqDiff, drawS, by3, inf3, sz3, Try.underlying2, Try.underlying3, Try.underlying5, Try.underlying22, Try.underlying47]
      refine cQ_eq _ (period47 k2 p _ hn1.2 hp1) ?_
      simp only [← m1, decide_true, Bool.not_true, tA, coreS, Value.cells, Value.oneCell', Nat.reduceAdd, Nat.reduceSub, Nat.reduceMul, Nat.reduceLeDiff, Int.reduceEq, Nat.reduceEqDiff, drawS, by3, inf3, sz3, Try.underlying2, Try.underlying3, Try.underlying5, Try.underlying22, Try.underlying47]
      repeat (refine And.intro (by first | omega | (rw [inK_i64]; omega) | rfl | assumption) ?_)
      refine cQ_eq _ (ints25 _ al _ _ _ _ _ _ _ (intsV_slice (c := c6) I6 (Nat.zero_le p) hp1 l6) J5 (by omega)) ?_
      have hde : decide (s.tmod (P0 : Int) = ((r : Int) + 1).tmod (P0 : Int)) = decide (zs ((roundL k2 s).take p) = zs (x.take p)) := decide_eq_decide.2 hst
      simp only [List.drop_zero, Nat.sub_zero, zs_take, hde, coreS, Value.cells, Value.oneCell', Nat.reduceAdd, Nat.reduceSub, Nat.reduceMul, Nat.reduceLeDiff, Int.reduceEq, Nat.reduceEqDiff, drawS, by3, inf3, sz3, Try.underlying2, Try.underlying3, Try.underlying5, Try.underlying22, Try.underlying47]
      repeat (refine And.intro (by first | omega | (rw [inK_i64]; omega) | rfl | assumption) ?_)
      refine neBoolQ sta_eq Try.underlying4 rfl rfl ?_
      simp only [BEq.rfl, Bool.not_true, hvK_eq, coreS, Value.cells, Value.oneCell', Nat.reduceAdd, Nat.reduceSub, Nat.reduceMul, Nat.reduceLeDiff, Int.reduceEq, Nat.reduceEqDiff, drawS, by3, inf3, sz3, Try.underlying2, Try.underlying3, Try.underlying5, Try.underlying22, Try.underlying47]
      have o2 : openE (k2 : Int) [(r : Int) + 1] = 0 := openE_ok (by omega) (by omega) (by omega) (by omega)
      have hb2 : zs ((roundL k2 ((r : Int) + 1)).take p) = zs (x.take p) := (hmk ((r : Int) + 1) (by omega)).2 (by
        have e : ((r : Int) + 1 - 1).toNat = r := by omega
        rw [e]; exact m3)
      refine CallsH.mono (roundP26 k2 ((r : Int) + 1) _) ?_
      rintro v h8 ⟨x8, a8, m8, c8, rfl, _, l8, I8⟩
      rw [roundZ_ok o2, Int.toNat_natCast] at I8
      have hl8 := I8.len
      rw [zs_length, roundL_length] at hl8
      subst hl8
      obtain ⟨gn, rfl⟩ : ∃ gn : Nat, g = gn := ⟨g.toNat, by omega⟩
      have hpg : P0 * gn ≤ 27720 * 255 := Nat.mul_le_mul (by omega) (by omega)
      have eg : (P0 : Int) * (gn : Int) = ((P0 * gn : Nat) : Int) := by push_cast; rfl
      obtain ⟨s3, hs3⟩ : ∃ s3 : Int, s3 = (r : Int) + 1 + ((P0 * gn : Nat) : Int) := ⟨_, rfl⟩
      simp only [o2, eg, ← hs3, coreS, Value.cells, Value.oneCell', Nat.reduceAdd, Nat.reduceSub, Nat.reduceMul, Nat.reduceLeDiff, Int.reduceEq, Nat.reduceEqDiff, by3, inf3, sz3, Try.underlying2, Try.underlying3, Try.underlying5, Try.underlying22, Try.underlying47]
      repeat (refine And.intro (by first | omega | (rw [inK_i64]; omega) | rfl | assumption) ?_)
      have o3 : openE (m8 : Int) [s3] = 0 := openE_ok (by omega) (by omega) (by omega) (by omega)
      have hb3 : zs ((roundL m8 s3).take p) = zs (x.take p) := (hmk s3 (by omega)).2 (by
        refine (makes_iff hn1.2 (by omega) m3 _).2 ?_
        rw [la, ← m1]
        have e : (s3 - 1).toNat = r + P0 * gn := by omega
        rw [e, Nat.add_mul_mod_self_left])
      refine CallsH.mono (roundP26 m8 s3 _) ?_
      rintro v h9 ⟨x9, a9, m9, c9, rfl, _, l9, I9⟩
      rw [roundZ_ok o3, Int.toNat_natCast] at I9
      have hl9 := I9.len.symm
      rw [zs_length, roundL_length] at hl9
      subst hl9
      simp only [o3, coreS, Value.cells, Value.oneCell', Nat.reduceAdd, Nat.reduceSub, Nat.reduceMul, Nat.reduceLeDiff, Int.reduceEq, Nat.reduceEqDiff, by3, inf3, sz3, Try.underlying2, Try.underlying3, Try.underlying5, Try.underlying22, Try.underlying47]
      refine CallsH.mono (isOrder46 _ m8 _ _ _ (I8.ext x9) (by omega) l8 (isOrd_perm (round_perm m8 _))) ?_
      rintro v h10 ⟨rfl, rfl⟩
      simp only [coreS, Value.cells, Value.oneCell', Nat.reduceAdd, Nat.reduceSub, Nat.reduceMul, Nat.reduceLeDiff, Int.reduceEq, Nat.reduceEqDiff, by3, inf3, sz3, Try.underlying2, Try.underlying3, Try.underlying5, Try.underlying22, Try.underlying47]
      refine CallsH.mono (isOrder46 _ m8 _ _ _ I9 (by omega) l9 (isOrd_perm (round_perm m8 _))) ?_
      rintro v h11 ⟨rfl, rfl⟩
      simp only [tA, coreS, Value.cells, Value.oneCell', Nat.reduceAdd, Nat.reduceSub, Nat.reduceMul, Nat.reduceLeDiff, Int.reduceEq, Nat.reduceEqDiff, by3, inf3, sz3, Try.underlying2, Try.underlying3, Try.underlying5, Try.underlying22, Try.underlying47]
      repeat (refine And.intro (by first | omega | (rw [inK_i64]; omega) | rfl | assumption) ?_)
      refine CallsH.mono (ints25 _ al _ _ _ _ _ _ _ (intsV_slice (c := c8) (I8.ext x9) (Nat.zero_le p) hp1 l8) (J5.ext (x8.trans x9)) (by omega)) ?_
      rintro v h12 ⟨rfl, rfl⟩
      simp only [List.drop_zero, Nat.sub_zero, zs_take, hb2, tA, decide_true, coreS, Value.cells, Value.oneCell', Nat.reduceAdd, Nat.reduceSub, Nat.reduceMul, Nat.reduceLeDiff, Int.reduceEq, Nat.reduceEqDiff, by3, inf3, sz3, Try.underlying2, Try.underlying3, Try.underlying5, Try.underlying22, Try.underlying47]
      repeat (refine And.intro (by first | omega | (rw [inK_i64]; omega) | rfl | assumption) ?_)
      refine CallsH.mono (ints25 _ al _ _ _ _ _ _ _ (intsV_slice (c := c9) I9 (Nat.zero_le p) hp1 l9) (J5.ext (x8.trans x9)) (by omega)) ?_
      rintro v h13 ⟨rfl, rfl⟩
      simp only [List.drop_zero, Nat.sub_zero, zs_take, hb3, decide_true, coreS, Value.cells, Value.oneCell', Nat.reduceAdd, Nat.reduceSub, Nat.reduceMul, Nat.reduceLeDiff, Int.reduceEq, Nat.reduceEqDiff, by3, inf3, sz3, Try.underlying2, Try.underlying3, Try.underlying5, Try.underlying22, Try.underlying47]
      refine CallsH.mono (works18 _) ?_
      rintro v h14 ⟨rfl, x14⟩
      simp only [coreS, Value.cells, Value.oneCell', Nat.reduceAdd, Nat.reduceSub, Nat.reduceMul, Nat.reduceLeDiff, Int.reduceEq, Nat.reduceEqDiff, by3, inf3, sz3, Try.underlying2, Try.underlying3, Try.underlying5, Try.underlying22, Try.underlying47]
      exact ((((x2.trans x25).trans x6).trans x8).trans x9).trans x14
end Go.Proofs.Ytoediaepoddonaa
