/- Walks: TurnMore. -/
import Derived.Test.YtoediaepoddonaaL8
namespace Go.Proofs.Ytoediaepoddonaa
open Go Go.Proofs Go.Eng Go.Run Tab
set_option maxRecDepth 100000
set_option linter.unusedSimpArgs false
set_option linter.unusedVariables false
set_option maxHeartbeats 1000000
theorem turnMore12 (a b c d : Int) (h : Eng.Heap) (ha : 0 ≤ a ∧ a ≤ 255) (hb : 0 ≤ b ∧ b ≤ 4294967295) (hc : 0 ≤ c ∧ c ≤ 255) (hd : 0 ≤ d ∧ d ≤ 255) :
    CallsH Try.prog 12 #[.int .u8 a, .int .u32 b, .int .u8 c, .int .u8 d] h (fun v h' => v = .bool true ∧ Ext h h') := by
  refine CallsH_of_exec Try.func12 rfl bod12 ?_
  simp only [Try.ntmps12, Try.results12, coreS, stK_some, splice, Value.cells, Value.oneCell', Nat.reduceAdd, Nat.reduceSub, Nat.reduceMul, Nat.reduceLeDiff, Int.reduceEq, Nat.reduceEqDiff, by3, inf3, sz3, Try.underlying3, Try.underlying5, Try.underlying22]
  refine CallsH.mono (shops44 a _ ha.1 ha.2) ?_
  rintro v h1 ⟨rfl, rfl⟩
  obtain ⟨n, hn⟩ : ∃ n : Nat, 1 + a % 12 = n := ⟨(1 + a % 12).toNat, by omega⟩
  rw [hn]
  have hn1 : 1 ≤ n ∧ n ≤ 12 := by omega
  simp only [coreS, Value.cells, Value.oneCell', Nat.reduceAdd, Nat.reduceSub, Nat.reduceMul, Nat.reduceLeDiff, Int.reduceEq, Nat.reduceEqDiff, by3, inf3, sz3, Try.underlying3, Try.underlying5, Try.underlying22]
  refine CallsH.mono (ordered45 n b _ hn1.1 hn1.2 hb.1 hb.2) ?_
  rintro v h2 ⟨x2, a2, k2, c2, rfl, hk2, hc2, x, hx, I2⟩
  subst hk2
  simp only [coreS, Value.cells, Value.oneCell', Nat.reduceAdd, Nat.reduceSub, Nat.reduceMul, Nat.reduceLeDiff, Int.reduceEq, Nat.reduceEqDiff, by3, inf3, sz3, Try.underlying3, Try.underlying5, Try.underlying22]
  obtain ⟨p, hp⟩ : ∃ p : Nat, (p : Int) = c % (k2 + 1) := ⟨(c % (k2 + 1)).toNat, by rw [Int.toNat_of_nonneg (Int.emod_nonneg _ (by omega))]⟩
  obtain ⟨q, hq⟩ : ∃ q : Nat, (q : Int) = d % (k2 + 1) := ⟨(d % (k2 + 1)).toNat, by rw [Int.toNat_of_nonneg (Int.emod_nonneg _ (by omega))]⟩
  have hp1 : p ≤ k2 := by have := Int.emod_lt_of_pos c (show (0 : Int) < k2 + 1 by omega); omega
  have hq1 : q ≤ k2 := by have := Int.emod_lt_of_pos d (show (0 : Int) < k2 + 1 by omega); omega
  have ep : c.tmod (k2 + 1) = (p : Int) := by rw [Int.tmod_eq_emod_of_nonneg hc.1, hp]
  have eq : d.tmod (k2 + 1) = (q : Int) := by rw [Int.tmod_eq_emod_of_nonneg hd.1, hq]
  refine WP_draw (by kernel_rfl) sta_eq [(0, 0), (1, 0), (2, 0), (3, 0), (4, 0), (5, 0), (6, 0), (7, 0), (8, 0), (9, 0), (10, 0), (11, 0), (12, 0), (13, 0), (14, 0), (15, 0), (16, 0), (17, 0), (18, 0), (19, 0), (20, 0), (21, 0), (22, 0), (23, 0)] (by kernel_rfl) rfl (by kernel_rfl) ?_
  obtain ⟨A, hA⟩ : ∃ A : Nat, A = min p q := ⟨_, rfl⟩
  obtain ⟨B, hB⟩ : ∃ B : Nat, B = max p q := ⟨_, rfl⟩
  have eA : (if (q : Int) < (p : Int) then (q : Int) else (p : Int)) = (A : Int) := by split <;> omega
  have eB : (if (p : Int) < (q : Int) then (q : Int) else (p : Int)) = (B : Int) := by split <;> omega
  have hAB : A ≤ B := by omega
  have hBk : B ≤ k2 := by omega
  have tA : ((A : Int) - ((0 : Nat) : Int)).toNat = A - 0 := by omega
  have tB : ((B : Int) - ((0 : Nat) : Int)).toNat = B - 0 := by omega
  simp only [ep, eq, eA, eB, tA, tB, hvK_eq, coreS, Value.cells, Value.oneCell', Nat.reduceAdd, Nat.reduceSub, Nat.reduceMul, Nat.reduceLeDiff, Int.reduceEq, Nat.reduceEqDiff, drawS, by3, inf3, sz3, Try.underlying3, Try.underlying5, Try.underlying22]
  clear hA hB eA eB hp hq ep eq hp1 hq1 hn
  repeat (refine And.intro (by first | omega | (rw [inK_i64]; omega) | rfl | assumption) ?_)
  have hxl := isOrd_len hx
  have hbx := begF_perm hx List.nodup_range
  obtain ⟨cs, hcs⟩ : ∃ cs, cs = codeF (List.range k2) x := ⟨_, rfl⟩
  have hcl : cs.length = k2 := by rw [hcs, codeF_length, hxl]
  have hfit : fits k2 cs := by have := code_fits x _ hbx; rw [List.length_range] at this; rw [hcs]; exact this
  have sl : ∀ (h' : Eng.Heap) (j : Nat), Ext h2 h' → j ≤ k2 → IntsV h' (if (c2 : Int) = ((0 : Nat) : Int) then a2 else eltP a2 0) (j - 0) (zs (x.take j)) := fun h' j xh hj => by
    have := intsV_slice (c := c2) (I2.ext xh) (Nat.zero_le j) hj hc2
    simpa [zs_take] using this
  have be : ∀ j, j ≤ k2 → begE k2 (zs (x.take j)) = 0 := fun j hj => begE_beg hn1.1 hn1.2 (begF_take hbx j) (by rw [List.length_take]; omega)
  have hfr : ∀ j, j ≤ k2 → findR k2 (zs (x.take j)) = match findF k2 (cs.take j) with | some q => ((q.1 : Int) + 1, (q.2 : Int), 0) | none => (0, 0, 5) := fun j hj => by
    rw [findR, if_pos (be j hj), Int.toNat_natCast, natL_zs, codeF_take, ← hcs]
    rfl
  have hcr : ∀ j, j ≤ k2 → clashR k2 (zs (x.take j)) = match clashF k2 (cs.take j) with | some p => ((p.1 : Int), (p.2 : Int), 0) | none => (0, 0, 5) := fun j hj => by
    rw [clashR, if_pos (be j hj), Int.toNat_natCast, natL_zs, codeF_take, ← hcs]
    rfl
  refine CallsH.mono (find32 k2 _ (A - 0) _ _ h2 (sl h2 A (Ext.refl _) (by omega)) (by omega)) ?_
  rintro v h3 ⟨x3, rfl⟩
  simp only [hfr A (by omega), tB, coreS, Value.cells, Value.oneCell', Nat.reduceAdd, Nat.reduceSub, Nat.reduceMul, Nat.reduceLeDiff, Int.reduceEq, Nat.reduceEqDiff, by3, inf3, sz3, Try.underlying3, Try.underlying5, Try.underlying22]
  repeat (refine And.intro (by first | omega | (rw [inK_i64]; omega) | rfl | assumption) ?_)
  refine CallsH.mono (find32 k2 _ (B - 0) _ _ h3 (sl h3 B x3 hBk) (by omega)) ?_
  rintro v h4 ⟨x4, rfl⟩
  simp only [hfr B hBk, tA, coreS, Value.cells, Value.oneCell', Nat.reduceAdd, Nat.reduceSub, Nat.reduceMul, Nat.reduceLeDiff, Int.reduceEq, Nat.reduceEqDiff, by3, inf3, sz3, Try.underlying3, Try.underlying5, Try.underlying22]
  repeat (refine And.intro (by first | omega | (rw [inK_i64]; omega) | rfl | assumption) ?_)
  refine CallsH.mono (clash34 k2 _ (A - 0) _ _ h4 (sl h4 A (x3.trans x4) (by omega)) (by omega)) ?_
  rintro v h5 ⟨x5, rfl⟩
  have x25 := (x3.trans x4).trans x5
  simp only [hcr A (by omega), coreS, Value.cells, Value.oneCell', Nat.reduceAdd, Nat.reduceSub, Nat.reduceMul, Nat.reduceLeDiff, Int.reduceEq, Nat.reduceEqDiff, by3, inf3, sz3, Try.underlying3, Try.underlying5, Try.underlying22]
  cases hqa : findF k2 (cs.take A) with
  | none =>
    obtain ⟨p, p1, p2, p3, p4, p5⟩ := more_none hn1.2 (by omega) hfit hAB (by omega) hqa
    have hck : chkC k2 (zs (x.take B)) p.1 p.2 = 0 := by
      rw [chkC, if_pos (be B hBk), if_pos ⟨by omega, by omega, by rw [zs_length, List.length_take]; omega⟩, Int.toNat_natCast, natL_zs, codeF_take, ← hcs, Int.toNat_natCast, Int.toNat_natCast, if_pos p5]
    simp only [p1, p2, tB, decide_true, coreS, Value.cells, Value.oneCell', Nat.reduceAdd, Nat.reduceSub, Nat.reduceMul, Nat.reduceLeDiff, Int.reduceEq, Nat.reduceEqDiff, by3, inf3, sz3, Try.underlying3, Try.underlying5, Try.underlying22]
    repeat (refine And.intro (by first | omega | (rw [inK_i64]; omega) | rfl | assumption) ?_)
    refine CallsH.mono (checkClash36 k2 _ (B - 0) _ _ _ _ h5 (sl h5 B x25 hBk) (by omega) (by omega)) ?_
    rintro v h6 ⟨rfl, x6⟩
    rw [hck]
    simp only [decide_true, coreS, Value.cells, Value.oneCell', Nat.reduceAdd, Nat.reduceSub, Nat.reduceMul, Nat.reduceLeDiff, Int.reduceEq, Nat.reduceEqDiff, by3, inf3, sz3, Try.underlying3, Try.underlying5, Try.underlying22]
    refine CallsH.mono (works18 _) ?_
    rintro v h7 ⟨rfl, x7⟩
    simp only [coreS, Value.cells, Value.oneCell', Nat.reduceAdd, Nat.reduceSub, Nat.reduceMul, Nat.reduceLeDiff, Int.reduceEq, Nat.reduceEqDiff, by3, inf3, sz3, Try.underlying3, Try.underlying5, Try.underlying22]
    exact ((x2.trans x25).trans x6).trans x7
  | some qa =>
    have la : (cs.take A).length ≤ k2 := by rw [List.length_take]; omega
    obtain ⟨m1, m2, m3⟩ := find_mid hn1.2 la (fits_cut A hfit) hqa
    have hca : clashF k2 (cs.take A) = none := by
      cases hq : clashF k2 (cs.take A) with
      | none => rfl
      | some p =>
        have := (find_none_iff hn1.2 la (fits_cut A hfit)).2 ⟨p, hq⟩
        rw [hqa] at this
        cases this
    have f1 : ¬ ((qa.2 : Int) < 1) := by omega
    have f2 : ¬ ((qa.1 : Int) + 1 < 1) := by omega
    have f3 : ¬ ((qa.2 : Int) < (qa.1 : Int) + 1) := by omega
    simp only [hca, f1, f2, f3, decide_true, decide_false, Bool.not_true, coreS, Value.cells, Value.oneCell', Nat.reduceAdd, Nat.reduceSub, Nat.reduceMul, Nat.reduceLeDiff, Int.reduceEq, Nat.reduceEqDiff, by3, inf3, sz3, Try.underlying3, Try.underlying5, Try.underlying22]
    cases hqb : findF k2 (cs.take B) with
    | none =>
      simp only [decide_true, coreS, Value.cells, Value.oneCell', Nat.reduceAdd, Nat.reduceSub, Nat.reduceMul, Nat.reduceLeDiff, Int.reduceEq, Nat.reduceEqDiff, by3, inf3, sz3, Try.underlying3, Try.underlying5, Try.underlying22]
      refine CallsH.mono (works18 _) ?_
      rintro v h7 ⟨rfl, x7⟩
      simp only [coreS, Value.cells, Value.oneCell', Nat.reduceAdd, Nat.reduceSub, Nat.reduceMul, Nat.reduceLeDiff, Int.reduceEq, Nat.reduceEqDiff, by3, inf3, sz3, Try.underlying3, Try.underlying5, Try.underlying22]
      exact (x2.trans x25).trans x7
    | some qb =>
      obtain ⟨s1, s2, s3, s4⟩ := more_some hn1.2 (by omega) hfit hAB (by omega) hqa hqb
      have lb : (cs.take B).length ≤ k2 := by rw [List.length_take]; omega
      obtain ⟨r1, r2, r3⟩ := find_mid hn1.2 lb (fits_cut B hfit) hqb
      have hpb : qb.2 ≤ 27720 := by rw [r1]; exact (perF_le2 k2 _ hn1.2 (by rw [List.length_take]; omega)).1
      have f4 : (qa.2 : Int) ≤ (qb.2 : Int) := by omega
      have f5 : (qb.2 : Int).tmod (qa.2 : Int) = 0 := by rw [mod_int, Nat.mod_eq_zero_of_dvd s1]; rfl
      have f6 : (qa.1 : Int) + 1 ≤ (qb.1 : Int) + 1 := by omega
      have f7 : ((qb.1 : Int) + 1 - ((qa.1 : Int) + 1)).tmod (qa.2 : Int) = 0 := by
        have e : (qb.1 : Int) + 1 - ((qa.1 : Int) + 1) = ((qb.1 - qa.1 : Nat) : Int) := by omega
        rw [e, mod_int, s4]; rfl
      simp only [f4, f5, f6, f7, decide_true, coreS, Value.cells, Value.oneCell', Nat.reduceAdd, Nat.reduceSub, Nat.reduceMul, Nat.reduceLeDiff, Int.reduceEq, Nat.reduceEqDiff, by3, inf3, sz3, Try.underlying3, Try.underlying5, Try.underlying22]
      refine ⟨by omega, by rw [inK_i64]; omega, by omega, ?_⟩
      refine CallsH.mono (works18 _) ?_
      rintro v h7 ⟨rfl, x7⟩
      simp only [coreS, Value.cells, Value.oneCell', Nat.reduceAdd, Nat.reduceSub, Nat.reduceMul, Nat.reduceLeDiff, Int.reduceEq, Nat.reduceEqDiff, by3, inf3, sz3, Try.underlying3, Try.underlying5, Try.underlying22]
      exact (x2.trans x25).trans x7
end Go.Proofs.Ytoediaepoddonaa
