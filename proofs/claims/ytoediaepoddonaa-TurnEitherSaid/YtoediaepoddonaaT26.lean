/- Walks: places that contradict each other, by the reference. -/
import Derived.Test.YtoediaepoddonaaL7
namespace Go.Proofs.Ytoediaepoddonaa
open Go Go.Proofs Go.Eng Go.Run Tab
set_option maxRecDepth 100000
set_option linter.unusedSimpArgs false
set_option linter.unusedVariables false
set_option maxHeartbeats 1000000
theorem isClash73 (n : Nat) (a : Option Addr) (l c : Nat) (cs : List Nat) (k i : Nat) (h : Eng.Heap) (hv : IntsV h a l (zs cs)) (hn : n ≤ 12) (hln : l ≤ n) (hf : fits n cs) (hk : k < l) (hi : i < l) :
    CallsH Try.prog 73 #[.int .i64 n, .slice a l c, .int .i64 k, .int .i64 i] h (fun v h' => v = .bool (decide (clashP n cs k i)) ∧ h' = h) := by
  have hl := hv.len
  rw [zs_length] at hl
  have hci := clash_iff hn hf (show k < cs.length by omega) (show i < cs.length by omega)
  have e1 : (n : Int) - (k : Int) = ((n - k : Nat) : Int) := by omega
  have e2 : (n : Int) - (i : Int) = ((n - i : Nat) : Int) := by omega
  have e3 : ((n - k : Nat) : Int) * ((n - i : Nat) : Int) = (((n - k) * (n - i) : Nat) : Int) := by push_cast; rfl
  have hle : (n - k) * (n - i) ≤ 12 * 12 := Nat.mul_le_mul (by omega) (by omega)
  have h1 := fits_get _ _ _ hf (show k < cs.length by omega)
  have h2 := fits_get _ _ _ hf (show i < cs.length by omega)
  refine CallsH_of_exec Try.func73 rfl bod73 ?_
  simp only [Try.ntmps73, Try.results73, coreS, stK_some, splice, Value.cells, Value.oneCell', Nat.reduceAdd, Nat.reduceSub, Nat.reduceMul, Nat.reduceLeDiff, Int.reduceEq, Nat.reduceEqDiff, agg3, by3, inf3, sz3, Try.underlying22]
  simp only [e1, e2, coreS, Value.cells, Value.oneCell', Nat.reduceAdd, Nat.reduceSub, Nat.reduceMul, Nat.reduceLeDiff, Int.reduceEq, Nat.reduceEqDiff, agg3, by3, inf3, sz3, Try.underlying22]
  repeat (refine And.intro (by first | omega | (rw [inK_i64]; omega) | rfl | assumption) ?_)
  refine WP_loopI [8, 11, 18, 19, 20, 21, 22, 23, 24, 25, 26, 27, 28, 29, 30, 31, 32, 33, 34, 35, 36, 37, 38, 39, 40, 41, 42] (fun g h' => h' = h ∧ ∃ m : Nat, m ≤ (n - k) * (n - i) ∧ g 11 = .int .i64 m ∧ ∀ j < m, ¬ (j % (n - k) = cs.getD k 0 ∧ j % (n - i) = cs.getD i 0)) (fun g _ => match g 11 with | .int _ m => (n - k) * (n - i) - m.toNat | _ => 0) ⟨rfl, 0, by omega, rfl, fun j hj => by omega⟩ ?_
  rintro g h' ⟨rfl, m, hm, hg, hno⟩
  simp only [hg, e3, coreS, Value.cells, Value.oneCell', Nat.reduceAdd, Nat.reduceSub, Nat.reduceMul, Nat.reduceLeDiff, Int.reduceEq, Nat.reduceEqDiff, agg3, by3, inf3, sz3, Try.underlying22]
  repeat (refine And.intro (by first | omega | (rw [inK_i64]; omega) | rfl | assumption) ?_)
  refine ⟨fun hlt => ?_, fun hge => ?_⟩
  · refine WP_draw (by kernel_rfl) sta_eq [(0, 0), (1, 0), (2, 0), (3, 0), (4, 0), (5, 0), (6, 0), (7, 0), (8, 0), (9, 0), (10, 0), (11, 0), (12, 0), (13, 0), (14, 0), (15, 0), (16, 0), (17, 0)] (by kernel_rfl) rfl (by kernel_rfl) ?_
    simp only [hv.cell (show k < (zs cs).length by rw [zs_length]; omega), hv.cell (show i < (zs cs).length by rw [zs_length]; omega), zs_get, mod_int, coreS, Value.cells, Value.oneCell', Nat.reduceAdd, Nat.reduceSub, Nat.reduceMul, Nat.reduceLeDiff, Int.reduceEq, Nat.reduceEqDiff, drawS, agg3, by3, inf3, sz3, Try.underlying22]
    have his : a.isSome = true := hv.isSome (by rw [zs_length]; omega)
    refine ⟨by omega, ⟨by omega, by omega⟩, his, fun hx => ⟨by omega, ⟨by omega, by omega⟩, his, fun hy => ?_, fun hy => ?_⟩, fun hx => ?_⟩
    · congr 1
      rw [eq_comm, decide_eq_false_iff_not, hci]
      exact fun hno2 => hno2 m (by omega) ⟨by omega, by omega⟩
    all_goals
      refine ⟨by rw [inK_i64]; omega, roundK_mk (by kernel_rfl) ⟨rfl, m + 1, by omega, rfl, fun j hj => ?_⟩ ?_⟩
      · rcases Nat.lt_or_ge j m with h3 | h3
        · exact hno j h3
        · obtain rfl : j = m := by omega
          rintro ⟨h5, h6⟩
          omega
      · show (n - k) * (n - i) - ((m : Int) + 1).toNat < (n - k) * (n - i) - (m : Int).toNat
        omega
  · have : decide (clashP n cs k i) = true := by
      rw [decide_eq_true_eq, hci]
      intro j hj
      exact hno j (by omega)
    rw [this]
/-- CheckClash, by the reference. -/
theorem checkClash37 (shops : Int) (a : Option Addr) (n c : Nat) (xs : List Int) (one two : Int) (h : Eng.Heap) (hv : IntsV h a n xs) (hc : n ≤ c) (hl : n ≤ 1000000) :
    CallsH Try.prog 37 #[.int .i64 shops, .slice a n c, .int .i64 one, .int .i64 two] h (fun v h' => v = .int .i64 (chkC shops xs one two) ∧ Ext h h') := by
  have hn := hv.len
  refine CallsH_of_exec Try.func37 rfl bod37 ?_
  simp only [Try.ntmps37, Try.results37, coreS, stK_some, splice, Value.cells, Value.oneCell', Nat.reduceAdd, Nat.reduceSub, Nat.reduceMul, Nat.reduceLeDiff, Int.reduceEq, Nat.reduceEqDiff, Try.underlying22]
  refine CallsH.mono (begunError57 shops a n c xs h hv hc hl) ?_
  rintro v h1 ⟨rfl, rfl⟩
  by_cases h0 : begE shops xs = 0
  · obtain ⟨k, rfl, hk1, hk2, hxl, hz, hbf⟩ := begE_ok h0
    have hfit := code_fits _ _ hbf
    rw [List.length_range] at hfit
    have hcl : (codeF (List.range k) (natL xs)).length = n := by rw [codeF_length, natL_length]; omega
    have hch : chkC k xs one two = if 0 ≤ one ∧ one < two ∧ two < xs.length then (if clashP k (codeF (List.range k) (natL xs)) one.toNat two.toNat then 0 else 14) else 2 := by rw [chkC, if_pos h0, Int.toNat_natCast]
    by_cases hr : 0 ≤ one ∧ one < two ∧ two < xs.length
    · rw [if_pos hr] at hch
      obtain ⟨o, rfl⟩ : ∃ o : Nat, one = o := ⟨one.toNat, by omega⟩
      obtain ⟨t, rfl⟩ : ∃ t : Nat, two = t := ⟨two.toNat, by omega⟩
      have f1 : ¬ ((o : Int) < 0) := by omega
      have f2 : ¬ ((t : Int) ≤ (o : Int)) := by omega
      have f3 : ¬ ((n : Int) ≤ (t : Int)) := by omega
      simp only [h0, f1, f2, f3, decide_false, coreS, Value.cells, Value.oneCell', Nat.reduceAdd, Nat.reduceSub, Nat.reduceMul, Nat.reduceLeDiff, Int.reduceEq, Nat.reduceEqDiff, Try.underlying22]
      have hv' := hv
      rw [← hz] at hv'
      refine CallsH.mono (codeOf58 k a n c (natL xs) h1 hv' hbf (by omega) (by omega)) ?_
      rintro v h2 ⟨x2, a2, c2, rfl, O2⟩
      simp only [coreS, Value.cells, Value.oneCell', Nat.reduceAdd, Nat.reduceSub, Nat.reduceMul, Nat.reduceLeDiff, Int.reduceEq, Nat.reduceEqDiff, Try.underlying22]
      refine CallsH.mono (isClash73 k a2 _ c2 _ o t h2 O2.ints hk2 ?_ hfit ?_ ?_) ?_
      · rw [zs_length, hcl]; omega
      · rw [zs_length, hcl]; omega
      · rw [zs_length, hcl]; omega
      rintro v h3 ⟨rfl, rfl⟩
      rw [Int.toNat_natCast, Int.toNat_natCast] at hch
      by_cases hcp : clashP k (codeF (List.range k) (natL xs)) o t
      · rw [if_pos hcp] at hch
        simp only [hcp, decide_true, Bool.not_true, hch, coreS, Value.cells, Value.oneCell', Nat.reduceAdd, Nat.reduceSub, Nat.reduceMul, Nat.reduceLeDiff, Int.reduceEq, Nat.reduceEqDiff, Try.underlying22]
        exact x2
      · rw [if_neg hcp] at hch
        simp only [hcp, decide_false, Bool.not_false, hch, coreS, Value.cells, Value.oneCell', Nat.reduceAdd, Nat.reduceSub, Nat.reduceMul, Nat.reduceLeDiff, Int.reduceEq, Nat.reduceEqDiff, Try.underlying22]
        exact x2
    · rw [if_neg hr] at hch
      by_cases f1 : one < 0
      · simp only [h0, f1, decide_true, hch, coreS, Value.cells, Value.oneCell', Nat.reduceAdd, Nat.reduceSub, Nat.reduceMul, Nat.reduceLeDiff, Int.reduceEq, Nat.reduceEqDiff, Try.underlying22]
        exact Ext.refl _
      · by_cases f2 : two ≤ one
        · simp only [h0, f1, f2, decide_true, decide_false, hch, coreS, Value.cells, Value.oneCell', Nat.reduceAdd, Nat.reduceSub, Nat.reduceMul, Nat.reduceLeDiff, Int.reduceEq, Nat.reduceEqDiff, Try.underlying22]
          exact Ext.refl _
        · have f3 : (n : Int) ≤ two := by omega
          simp only [h0, f1, f2, f3, decide_true, decide_false, hch, coreS, Value.cells, Value.oneCell', Nat.reduceAdd, Nat.reduceSub, Nat.reduceMul, Nat.reduceLeDiff, Int.reduceEq, Nat.reduceEqDiff, Try.underlying22]
          exact Ext.refl _
  · simp only [h0, coreS, Value.cells, Value.oneCell', Nat.reduceAdd, Nat.reduceSub, Nat.reduceMul, Nat.reduceLeDiff, Int.reduceEq, Nat.reduceEqDiff, Try.underlying22]
    refine CallsH.mono (begunError57 shops a n c xs h1 hv hc hl) ?_
    rintro v h2 ⟨rfl, rfl⟩
    simp only [coreS, Value.cells, Value.oneCell', Nat.reduceAdd, Nat.reduceSub, Nat.reduceMul, Nat.reduceLeDiff, Int.reduceEq, Nat.reduceEqDiff, Try.underlying22]
    exact ⟨by rw [chkC, if_neg h0], Ext.refl _⟩
/-- Clash, by the reference. -/
theorem clashR35 (shops : Int) (a : Option Addr) (n c : Nat) (xs : List Int) (h : Eng.Heap) (hv : IntsV h a n xs) (hc : n ≤ c) (hl : n ≤ 1000000) :
    CallsH Try.prog 35 #[.int .i64 shops, .slice a n c] h (fun v h' => Ext h h' ∧ v = .tuple #[.int .i64 (clashR shops xs).1, .int .i64 (clashR shops xs).2.1, .int .i64 (clashR shops xs).2.2]) := by
  have hn := hv.len
  refine CallsH_of_exec Try.func35 rfl bod35 ?_
  simp only [Try.ntmps35, Try.results35, coreS, stK_some, splice, Value.cells, Value.oneCell', Nat.reduceAdd, Nat.reduceSub, Nat.reduceMul, Nat.reduceLeDiff, Int.reduceEq, Nat.reduceEqDiff, Try.underlying22]
  refine CallsH.mono (begunError57 shops a n c xs h hv hc hl) ?_
  rintro v h1 ⟨rfl, rfl⟩
  by_cases h0 : begE shops xs = 0
  · have hf0 : clashR shops xs = match clashF shops.toNat (codeF (List.range shops.toNat) (natL xs)) with | some p => ((p.1 : Int), (p.2 : Int), 0) | none => (0, 0, 5) := if_pos h0
    obtain ⟨k, rfl, hk1, hk2, hxl, hz, hbf⟩ := begE_ok h0
    have hfit := code_fits _ _ hbf
    rw [List.length_range] at hfit
    have hcl : (codeF (List.range k) (natL xs)).length = n := by rw [codeF_length, natL_length]; omega
    rw [Int.toNat_natCast] at hf0
    obtain ⟨cs, hcs⟩ : ∃ cs, cs = codeF (List.range k) (natL xs) := ⟨_, rfl⟩
    rw [← hcs] at hf0 hfit hcl
    have hv' := hv
    rw [← hz] at hv'
    have hfl : clashF k cs = (List.range n).findSome? fun i => ((List.range (n - (i + 1))).map fun j => (i, i + 1 + j)).find? fun p => decide (clashP k cs p.1 p.2) := by
      rw [clashF, hcl, pairs2, find_flat]
    simp only [h0, coreS, Value.cells, Value.oneCell', Nat.reduceAdd, Nat.reduceSub, Nat.reduceMul, Nat.reduceLeDiff, Int.reduceEq, Nat.reduceEqDiff, Try.underlying22]
    refine WP_loopI [4, 5, 6, 7, 8, 16, 17, 18, 19, 20, 21, 22, 23, 24, 25, 26, 27, 28, 29, 30, 31, 32, 33, 34, 35, 36, 37, 38] (fun g h' => Ext h1 h' ∧ ∃ i : Nat, i ≤ n ∧ g 7 = .int .i64 i ∧ ∀ i' < i, ∀ j < n, i' < j → ¬ clashP k cs i' j) (fun g _ => match g 7 with | .int _ m => n - m.toNat | _ => 0) ⟨Ext.refl _, 0, by omega, rfl, fun j hj => by omega⟩ ?_
    rintro g h' ⟨x, i, hi, hg, hno⟩
    simp only [hg, coreS, Value.cells, Value.oneCell', Nat.reduceAdd, Nat.reduceSub, Nat.reduceMul, Nat.reduceLeDiff, Int.reduceEq, Nat.reduceEqDiff, Try.underlying22]
    refine ⟨fun hlt => ?_, fun hge => ?_⟩
    · repeat (refine And.intro (by first | omega | (rw [inK_i64]; omega) | rfl | assumption) ?_)
      refine WP_loopI [4, 5, 6, 8, 24, 25, 26, 27, 28, 29, 30, 31, 32, 33, 34, 35, 36, 37, 38] (fun g h' => Ext h1 h' ∧ ∃ j : Nat, i < j ∧ j ≤ n ∧ g 8 = .int .i64 j ∧ ∀ j' < j, i < j' → ¬ clashP k cs i j') (fun g _ => match g 8 with | .int _ m => n - m.toNat | _ => 0) ⟨x, i + 1, by omega, by omega, rfl, fun j hj => by omega⟩ ?_
      rintro g2 h2 ⟨x2, j, hij, hj, hg2, hno2⟩
      simp only [hg2, coreS, Value.cells, Value.oneCell', Nat.reduceAdd, Nat.reduceSub, Nat.reduceMul, Nat.reduceLeDiff, Int.reduceEq, Nat.reduceEqDiff, Try.underlying22]
      refine ⟨fun hlt2 => ?_, fun hge2 => ?_⟩
      · refine CallsH.mono (codeOf58 k a n c (natL xs) h2 (hv'.ext x2) hbf (by omega) (by omega)) ?_
        rintro v h3 ⟨x3, a3, c3, rfl, O3⟩
        rw [← hcs] at O3
        rw [zs_length, hcl] at O3
        simp only [← hcs, zs_length, hcl, coreS, Value.cells, Value.oneCell', Nat.reduceAdd, Nat.reduceSub, Nat.reduceMul, Nat.reduceLeDiff, Int.reduceEq, Nat.reduceEqDiff, Try.underlying22]
        refine CallsH.mono (isClash73 k a3 n c3 cs i j h3 O3.ints hk2 (by omega) hfit (by omega) (by omega)) ?_
        rintro v h4 ⟨rfl, rfl⟩
        by_cases hcp : clashP k cs i j
        · simp only [hcp, decide_true, coreS, Value.cells, Value.oneCell', Nat.reduceAdd, Nat.reduceSub, Nat.reduceMul, Nat.reduceLeDiff, Int.reduceEq, Nat.reduceEqDiff, Try.underlying22]
          have : clashF k cs = some (i, j) := by
            refine find_first (pairs2_sorted (by omega)) (pairs2_mem.2 ⟨hij, by omega⟩) (by simpa using hcp) ?_
            rintro ⟨p, q⟩ hp hlt3
            have h5 := pairs2_mem.1 hp
            rw [hcl] at h5
            simp only [decide_eq_false_iff_not]
            rcases hlt3 with h6 | ⟨h6, h7⟩
            · exact hno p h6 q h5.2 h5.1
            · simp only at h6 h7 h5
              subst h6
              exact hno2 q h7 h5.1
          rw [this] at hf0
          rw [hf0]
          exact ⟨x2.trans x3, rfl⟩
        · simp only [hcp, decide_false, coreS, Value.cells, Value.oneCell', Nat.reduceAdd, Nat.reduceSub, Nat.reduceMul, Nat.reduceLeDiff, Int.reduceEq, Nat.reduceEqDiff, Try.underlying22]
          refine ⟨by rw [inK_i64]; omega, roundK_mk (by kernel_rfl) ⟨x2.trans x3, j + 1, by omega, by omega, rfl, fun j' h5 h6 => ?_⟩ ?_⟩
          · rcases Nat.lt_or_ge j' j with h7 | h7
            · exact hno2 j' h7 h6
            · obtain rfl : j' = j := by omega
              exact hcp
          · show n - ((j : Int) + 1).toNat < n - (j : Int).toNat
            omega
      · refine ⟨by rw [inK_i64]; omega, roundK_mk (by kernel_rfl) ⟨x2, i + 1, by omega, rfl, fun i' h5 j' h6 h7 => ?_⟩ ?_⟩
        · rcases Nat.lt_or_ge i' i with h8 | h8
          · exact hno i' h8 j' h6 h7
          · obtain rfl : i' = i := by omega
            exact hno2 j' (by omega) h7
        · show n - ((i : Int) + 1).toNat < n - (i : Int).toNat
          omega
    · have : clashF k cs = none := by
        rw [clashF, List.find?_eq_none]
        rintro ⟨p, q⟩ hp
        have := pairs2_mem.1 hp
        rw [hcl] at this
        simpa using hno p (by omega) q (by omega) this.1
      rw [this] at hf0
      rw [hf0]
      exact ⟨x, rfl⟩
  · simp only [h0, coreS, Value.cells, Value.oneCell', Nat.reduceAdd, Nat.reduceSub, Nat.reduceMul, Nat.reduceLeDiff, Int.reduceEq, Nat.reduceEqDiff, Try.underlying22]
    refine CallsH.mono (begunError57 shops a n c xs h1 hv hc hl) ?_
    rintro v h2 ⟨rfl, rfl⟩
    simp only [coreS, Value.cells, Value.oneCell', Nat.reduceAdd, Nat.reduceSub, Nat.reduceMul, Nat.reduceLeDiff, Int.reduceEq, Nat.reduceEqDiff, Try.underlying22]
    exact ⟨Ext.refl _, by rw [clashR, if_neg h0]⟩
end Go.Proofs.Ytoediaepoddonaa
