/- Walks of the reference: numbers of shops, rounds, orders of codes. -/
import Derived.Test.YtoediaepoddonaaT11
import Derived.Test.YtoediaepoddonaaL4
namespace Go.Proofs.Ytoediaepoddonaa
open Go Go.Proofs Go.Eng Go.Run Tab
set_option maxRecDepth 100000
set_option linter.unusedSimpArgs false
set_option linter.unusedVariables false
set_option maxHeartbeats 1000000
theorem isShops61 (n : Int) (h : Eng.Heap) : CallsH Try.prog 61 #[.int .i64 n] h (fun v h' => v = .int .i64 (openE n []) ∧ h' = h) := by
  refine CallsH_of_exec Try.func61 rfl bod61 ?_
  simp only [Try.ntmps61, Try.results61, coreS, stK_some, splice, Value.cells, Value.oneCell', Nat.reduceAdd, Nat.reduceSub, Nat.reduceMul, Nat.reduceLeDiff, Int.reduceEq, Nat.reduceEqDiff]
  rw [openE_nil']
  refine ⟨fun h1 => ?_, fun h1 => ⟨fun h2 => ?_, fun h2 => ?_⟩⟩
  · rw [if_neg (by omega)]
  · rw [if_neg (by omega)]
  · rw [if_pos (by omega)]
theorem openE_ne {n : Int} : openE n [] ≠ 0 ↔ ¬ (1 ≤ n ∧ n ≤ 12) := by
  rw [openE_nil']
  split <;> simp_all
theorem openE_cases (n s : Int) : openE n [s] = if openE n [] ≠ 0 then 6 else if s < 1 ∨ 1099511627776 < s then 2 else 0 := by
  rw [openE_nil']
  unfold openE
  by_cases hn : 1 ≤ n ∧ n ≤ 12
  · simp [hn]
  · simp [hn]
theorem stepped62 (n s : Int) (h : Eng.Heap) : CallsH Try.prog 62 #[.int .i64 n, .int .i64 s] h (fun v h' => v = .int .i64 (openE n [s]) ∧ h' = h) := by
  refine CallsH_of_exec Try.func62 rfl bod62 ?_
  simp only [Try.ntmps62, Try.results62, coreS, stK_some, splice, Value.cells, Value.oneCell', Nat.reduceAdd, Nat.reduceSub, Nat.reduceMul, Nat.reduceLeDiff, Int.reduceEq, Nat.reduceEqDiff]
  refine CallsH.mono (isShops61 _ _) ?_
  rintro v h1 ⟨rfl, rfl⟩
  rw [openE_cases]
  by_cases hn : openE n [] = 0
  · simp only [hn, coreS, Value.cells, Value.oneCell', Nat.reduceAdd, Nat.reduceSub, Nat.reduceMul, Nat.reduceLeDiff, Int.reduceEq, Nat.reduceEqDiff]
    have f0 : ¬ ((0 : Int) ≠ 0) := by decide
    refine ⟨fun h1 => ?_, fun h1 => ⟨fun h2 => ?_, fun h2 => ?_⟩⟩
    · rw [if_neg f0, if_pos (by omega)]
    · rw [if_neg f0, if_pos (by omega)]
    · rw [if_neg f0, if_neg (by omega)]
  · simp only [hn, coreS, Value.cells, Value.oneCell', Nat.reduceAdd, Nat.reduceSub, Nat.reduceMul, Nat.reduceLeDiff, Int.reduceEq, Nat.reduceEqDiff]
    rw [if_pos hn]
theorem range_next (n i : Nat) : zs (List.range (i + 1)) = zs (List.range i) ++ [(i : Int)] := by rw [List.range_succ, zs_append]; rfl
theorem all50 (n : Nat) (h : Eng.Heap) (hn : n ≤ 1000) : CallsH Try.prog 50 #[.int .i64 n] h (fun v h' => Ext h h' ∧ NewI h.size h' 3 v (zs (List.range n))) := by
  refine CallsH_of_exec Try.func50 rfl bod50 ?_
  simp only [Try.ntmps50, Try.results50, coreS, stK_some, splice, Value.cells, Value.oneCell', Nat.reduceAdd, Nat.reduceSub, Nat.reduceMul, Nat.reduceLeDiff, Int.reduceEq, Nat.reduceEqDiff, by3, inf3, sz3, zero3, Try.underlying22]
  refine WP_loopI [3, 4, 5, 6, 7, 8, 9, 10, 11, 12, 13] (fun g h' => ∃ i : Nat, i ≤ n ∧ g 4 = .int .i64 i ∧ Ext h h' ∧ ∃ a cap, g 3 = .slice a i cap ∧ OwnI h.size h' 3 a i cap (zs (List.range i))) (fun g _ => match g 4 with | .int _ m => n - m.toNat | _ => 0) ⟨0, by omega, rfl, Ext.refl h, none, 0, rfl, OwnI.nil _ _ _⟩ ?_
  rintro g h' ⟨i, hi, hg4, x, a, cap, hg3, O⟩
  simp only [hg4, hg3, coreS, Value.cells, Value.oneCell', Nat.reduceAdd, Nat.reduceSub, Nat.reduceMul, Nat.reduceLeDiff, Int.reduceEq, Nat.reduceEqDiff, by3, inf3, sz3, zero3, Try.underlying22]
  refine ⟨fun hlt => ?_, fun hge => ?_⟩
  · have O1 := O.ext ((Ext.refl h').push (.cells #[.int .i64 (i : Nat)] 3))
    repeat (refine And.intro (by first | omega | (rw [inK_i64]; omega) | rfl | assumption) ?_)
    refine app22 rfl rfl O1 (by have := x.size; simp; omega) intsV_one (by omega) fun a' cap' h2 O2 A => ?_
    simp only [coreS, Value.cells, Value.oneCell', Nat.reduceAdd, Nat.reduceSub, Nat.reduceMul, Nat.reduceLeDiff, Int.reduceEq, Nat.reduceEqDiff, by3, inf3, sz3, zero3, Try.underlying22]
    refine ⟨by rw [inK_i64]; omega, roundK_mk (by kernel_rfl) ⟨i + 1, by omega, rfl, A.extN O1 (x.push _) (Nat.le_refl _), a', cap', rfl, ?_⟩ ?_⟩
    · rw [range_next n]; exact O2
    · show n - ((i : Int) + 1).toNat < n - (i : Int).toNat
      omega
  · have : i = n := by omega
    subst this
    exact ⟨x, a, cap, by rw [zs_length, List.length_range], by rw [zs_length, List.length_range]; exact O⟩
theorem stepC_next (n i : Nat) (s : Int) (hi : i < n) : zs ((stepC n s).take (i + 1)) = zs ((stepC n s).take i) ++ [(s - 1) % ((n - i : Nat) : Int)] := by
  rw [take_next (by rw [stepC_length]; exact hi), zs_append, stepC_get hi]
  have := Int.emod_nonneg (s - 1) (show ((n - i : Nat) : Int) ≠ 0 by omega)
  simp [zs]
  omega
theorem stepCode63 (n : Nat) (s : Int) (h : Eng.Heap) (hn : n ≤ 1000) (h1 : 1 ≤ s) (h2 : s ≤ 2199023255552) : CallsH Try.prog 63 #[.int .i64 n, .int .i64 s] h (fun v h' => Ext h h' ∧ NewI h.size h' 3 v (zs (stepC n s))) := by
  refine CallsH_of_exec Try.func63 rfl bod63 ?_
  simp only [Try.ntmps63, Try.results63, coreS, stK_some, splice, Value.cells, Value.oneCell', Nat.reduceAdd, Nat.reduceSub, Nat.reduceMul, Nat.reduceLeDiff, Int.reduceEq, Nat.reduceEqDiff, by3, inf3, sz3, zero3, Try.underlying22]
  refine WP_loopI [5, 6, 7, 8, 9, 10, 11, 12, 13, 14, 15, 16, 17, 18, 19, 20] (fun g h' => ∃ i : Nat, i ≤ n ∧ g 6 = .int .i64 i ∧ Ext h h' ∧ ∃ a cap, g 5 = .slice a i cap ∧ OwnI h.size h' 3 a i cap (zs ((stepC n s).take i))) (fun g _ => match g 6 with | .int _ m => n - m.toNat | _ => 0) ⟨0, by omega, rfl, Ext.refl h, none, 0, rfl, OwnI.nil _ _ _⟩ ?_
  rintro g h' ⟨i, hi, hg4, x, a, cap, hg3, O⟩
  simp only [hg4, hg3, coreS, Value.cells, Value.oneCell', Nat.reduceAdd, Nat.reduceSub, Nat.reduceMul, Nat.reduceLeDiff, Int.reduceEq, Nat.reduceEqDiff, by3, inf3, sz3, zero3, Try.underlying22]
  refine ⟨fun hlt => ?_, fun hge => ?_⟩
  · have hin : i < n := by omega
    have e1 : (n : Int) - (i : Int) = ((n - i : Nat) : Int) := by omega
    have e2 : (s - 1).tmod ((n - i : Nat) : Int) = (s - 1) % ((n - i : Nat) : Int) := Int.tmod_eq_emod_of_nonneg (by omega)
    rw [e1, e2]
    have O1 := O.ext ((Ext.refl h').push (.cells #[.int .i64 ((s - 1) % ((n - i : Nat) : Int))] 3))
    repeat (refine And.intro (by first | omega | (rw [inK_i64]; omega) | rfl | assumption) ?_)
    refine app22 rfl rfl O1 (by have := x.size; simp; omega) intsV_one (by omega) fun a' cap' h2 O2 A => ?_
    simp only [coreS, Value.cells, Value.oneCell', Nat.reduceAdd, Nat.reduceSub, Nat.reduceMul, Nat.reduceLeDiff, Int.reduceEq, Nat.reduceEqDiff, by3, inf3, sz3, zero3, Try.underlying22]
    refine ⟨by rw [inK_i64]; omega, roundK_mk (by kernel_rfl) ⟨i + 1, by omega, rfl, A.extN O1 (x.push _) (Nat.le_refl _), a', cap', rfl, ?_⟩ ?_⟩
    · rw [stepC_next n i s hin]; exact O2
    · show n - ((i : Int) + 1).toNat < n - (i : Int).toNat
      omega
  · have : i = n := by omega
    subst this
    rw [List.take_of_length_le (by rw [stepC_length]; omega)] at O
    exact ⟨x, a, cap, by rw [zs_length, stepC_length], by rw [zs_length, stepC_length]; exact O⟩
def turnedZ (l : List Int) (m : Nat) : List Int := l.drop (m + 1) ++ l.take m
theorem turnedZ_zs (l : List Nat) (m : Nat) : turnedZ (zs l) m = zs (turned l m) := by simp [turnedZ, turned, zs, List.map_drop, List.map_take]
theorem turned83 (a : Option Addr) (n c m : Nat) (xs : List Int) (h : Eng.Heap) (hv : IntsV h a n xs) (hc : n ≤ c) (hm : m < n) (hl : n ≤ 1000) :
    CallsH Try.prog 83 #[.slice a n c, .int .i64 m] h (fun v h' => Ext h h' ∧ NewI h.size h' 3 v (turnedZ xs m)) := by
  have hn := hv.len
  refine CallsH_of_exec Try.func83 rfl bod83 ?_
  simp only [Try.ntmps83, Try.results83, coreS, stK_some, splice, Value.cells, Value.oneCell', Nat.reduceAdd, Nat.reduceSub, Nat.reduceMul, Nat.reduceLeDiff, Int.reduceEq, Nat.reduceEqDiff, by3, inf3, sz3, zero3, Try.underlying22]
  refine WP_draw (by kernel_rfl) sta_eq [(1, 3), (2, 3), (3, 3), (4, 3), (6, 3), (7, 3), (8, 3), (0, 1), (5, 1), (9, 1), (10, 0)] (by kernel_rfl) rfl (by kernel_rfl) ?_
  simp only [coreS, Value.cells, Value.oneCell', Nat.reduceAdd, Nat.reduceSub, Nat.reduceMul, Nat.reduceLeDiff, Int.reduceEq, Nat.reduceEqDiff, drawS, by3, inf3, sz3, zero3, Try.underlying22]
  have e1 : (m : Int) + 1 = ((m + 1 : Nat) : Int) := by omega
  have e2 : ((n : Int) - ((m + 1 : Nat) : Int)).toNat = n - (m + 1) := by omega
  have e3 : ((m : Int) - ((0 : Nat) : Int)).toNat = m - 0 := by omega
  rw [e1]
  simp only [e2, e3, Int.toNat_natCast]
  repeat (refine And.intro (by first | omega | (rw [inK_i64]; omega) | rfl | assumption) ?_)
  have O0 : OwnI h.size (h.push (.cells #[] 3)) 3 (some ⟨h.size, 0, none⟩) 0 0 [] := OwnI.of_block (xs := []) (tl := []) (Nat.le_refl _) push_new (by simp) (by simp)
  have hv0 := hv.push (.cells #[] 3)
  have I1 := intsV_slice (c := c) hv0 (show m + 1 ≤ n by omega) (Nat.le_refl n) hc
  refine app22 rfl rfl O0 (by simp) I1 (by omega) fun a1 cap1 h1 O1 A1 => ?_
  have x1 : Ext h h1 := A1.extN O0 ((Ext.refl h).push _) (Nat.le_refl _)
  simp only [coreS, Value.cells, Value.oneCell', Nat.reduceAdd, Nat.reduceSub, Nat.reduceMul, Nat.reduceLeDiff, Int.reduceEq, Nat.reduceEqDiff, drawS, by3, inf3, sz3, zero3, Try.underlying22]
  have I2 := intsV_slice (c := c) (hv.ext x1) (Nat.zero_le m) (show m ≤ n by omega) hc
  simp only [Nat.zero_add, List.nil_append] at O1
  refine app22 rfl rfl O1 x1.size I2 (by omega) fun a2 cap2 h2 O2 A2 => ?_
  simp only [hvK_eq, coreS, Value.cells, Value.oneCell', Nat.reduceAdd, Nat.reduceSub, Nat.reduceMul, Nat.reduceLeDiff, Int.reduceEq, Nat.reduceEqDiff, drawS, by3, inf3, sz3, zero3, Try.underlying22]
  refine ⟨A2.extN O1 x1 (Nat.le_refl _), ?_⟩
  have el : n - (m + 1) + (m - 0) = (turnedZ xs m).length := by simp [turnedZ]; omega
  have ex : List.take (n - (m + 1)) (List.drop (m + 1) xs) ++ List.take (m - 0) (List.drop 0 xs) = turnedZ xs m := by
    simp only [turnedZ, List.drop_zero, Nat.sub_zero]
    rw [List.take_of_length_le (by simp; omega)]
  rw [ex] at O2
  refine ⟨a2, cap2, ?_, ?_⟩
  · rw [← el]
  · rw [← el]; exact O2
/-- The order of a valid code. -/
theorem orderOf54 (n : Nat) (a : Option Addr) (k c : Nat) (cs : List Nat) (h : Eng.Heap) (hv : IntsV h a k (zs cs)) (hf : fits n cs) (hn : n ≤ 1000) (hk : k ≤ n) :
    CallsH Try.prog 54 #[.int .i64 n, .slice a k c] h (fun v h' => Ext h h' ∧ NewI h.size h' 3 v (zs (ordF (List.range n) cs))) := by
  have hkl := hv.len
  rw [zs_length] at hkl
  refine CallsH_of_exec Try.func54 rfl bod54 ?_
  simp only [Try.ntmps54, Try.results54, coreS, stK_some, splice, Value.cells, Value.oneCell', Nat.reduceAdd, Nat.reduceSub, Nat.reduceMul, Nat.reduceLeDiff, Int.reduceEq, Nat.reduceEqDiff, agg3, by3, inf3, sz3, zero3, Try.underlying22]
  refine CallsH.mono (all50 n h hn) ?_
  rintro v h1 ⟨x1, a1, c1, rfl, O1⟩
  rw [zs_length, List.length_range] at O1
  simp only [zs_length, List.length_range, coreS, Value.cells, Value.oneCell', Nat.reduceAdd, Nat.reduceSub, Nat.reduceMul, Nat.reduceLeDiff, Int.reduceEq, Nat.reduceEqDiff, agg3, by3, inf3, sz3, zero3, Try.underlying22]
  refine WP_loopI [5, 6, 7, 10, 11, 12, 13, 14, 15, 16, 17, 18, 19, 20, 21, 22, 23, 24, 25, 26, 27, 28, 29, 30, 31] (fun g h' => ∃ i : Nat, i ≤ k ∧ g 7 = .int .i64 i ∧ Ext h h' ∧ ∃ a2 c2 al cl, g 6 = .slice a2 i c2 ∧ OwnI h.size h' 3 a2 i c2 (zs (ordF (List.range n) (cs.take i))) ∧
    g 5 = .slice al (n - i) cl ∧ OwnI h.size h' 3 al (n - i) cl (zs (aft (List.range n) (cs.take i))) ∧ Apart a2 al) (fun g _ => match g 7 with | .int _ m => k - m.toNat | _ => 0) ?_ ?_
  · exact ⟨0, by omega, rfl, x1, none, 0, a1, c1, rfl, OwnI.nil _ _ _, rfl, O1, Apart.none_left⟩
  · rintro g h' ⟨i, hi, hg7, x, a2, c2, al, cl, hg6, O2, hg5, Ol, hne⟩
    simp only [hg7, hg6, hg5, coreS, Value.cells, Value.oneCell', Nat.reduceAdd, Nat.reduceSub, Nat.reduceMul, Nat.reduceLeDiff, Int.reduceEq, Nat.reduceEqDiff, agg3, by3, inf3, sz3, zero3, Try.underlying22]
    refine ⟨fun hlt => ?_, fun hge => ?_⟩
    · have hik : i < cs.length := by omega
      have hc := fits_get _ _ _ hf hik
      have hil : i < (zs cs).length := by rw [zs_length]; exact hik
      obtain ⟨L, hL⟩ : ∃ L, L = aft (List.range n) (cs.take i) := ⟨_, rfl⟩
      have hLl : L.length = n - i := by
        rw [hL, aft_length _ _ (by rw [List.length_range]; exact fits_take _ _ _ hf), List.length_range, List.length_take]; omega
      have hcl2 : cs.getD i 0 < (zs L).length := by rw [zs_length]; omega
      rw [← hL] at Ol
      simp only [(hv.ext x).cell hil, zs_get, Ol.ints.cell hcl2, coreS, Value.cells, Value.oneCell', Nat.reduceAdd, Nat.reduceSub, Nat.reduceMul, Nat.reduceLeDiff, Int.reduceEq, Nat.reduceEqDiff, agg3, by3, inf3, sz3, zero3, Try.underlying22]
      repeat (refine And.intro (by first | omega | (rw [inK_i64]; omega) | rfl | assumption | (exact (hv.ext x).isSome (by omega)) | (exact Ol.ints.isSome (by rw [zs_length]; omega))) ?_)
      have O2' := O2.ext ((Ext.refl h').push (.cells #[.int .i64 (L.getD (cs.getD i 0) 0 : Nat)] 3))
      have Ol' := Ol.ext ((Ext.refl h').push (.cells #[.int .i64 (L.getD (cs.getD i 0) 0 : Nat)] 3))
      refine app22 rfl rfl O2' (by have := x.size; simp; omega) intsV_one (by omega) fun a3 c3 h2 O3 A => ?_
      have x2 := A.extN O2' (x.push _) (Nat.le_refl _)
      have Ol2 := Ol'.beside (xs := []) (len := 0) (cap := 0) (m := 0) (el := 3) A hne
      have hne2 := hne.app A Ol'
      simp only [(hv.ext x2).cell hil, zs_get, coreS, Value.cells, Value.oneCell', Nat.reduceAdd, Nat.reduceSub, Nat.reduceMul, Nat.reduceLeDiff, Int.reduceEq, Nat.reduceEqDiff, agg3, by3, inf3, sz3, zero3, Try.underlying22]
      repeat (refine And.intro (by first | omega | (rw [inK_i64]; omega) | rfl | assumption | (exact (hv.ext x2).isSome (by omega))) ?_)
      refine CallsH.mono (turned83 al (n - i) cl (cs.getD i 0) (zs L) h2 Ol2.ints Ol2.cap (by omega) (by omega)) ?_
      rintro v h3 ⟨x3, a4, c4, rfl, O4⟩
      rw [turnedZ_zs, zs_length, turned_length (by omega), hLl] at O4
      rw [turnedZ_zs, zs_length, turned_length (by omega), hLl]
      simp only [coreS, Value.cells, Value.oneCell', Nat.reduceAdd, Nat.reduceSub, Nat.reduceMul, Nat.reduceLeDiff, Int.reduceEq, Nat.reduceEqDiff, agg3, by3, inf3, sz3, zero3, Try.underlying22]
      have e1 : n - i - 1 = n - (i + 1) := by omega
      rw [e1] at O4
      rw [e1]
      refine ⟨by rw [inK_i64]; omega, roundK_mk (by kernel_rfl) ⟨i + 1, by omega, rfl, x2.trans x3, a3, c3, a4, c4, rfl, ?_, rfl, ?_, O3.apart O4 (Nat.le_refl _)⟩ ?_⟩
      · rw [take_next hik, ordF_snoc, zs_append, ← hL]
        exact O3.ext x3
      · rw [take_next hik, aft_snoc, ← hL]
        exact O4.mono x2.size
      · show k - ((i : Int) + 1).toNat < k - (i : Int).toNat
        omega
    · have : i = k := by omega
      subst this
      rw [List.take_of_length_le (by omega)] at O2
      refine ⟨x, a2, c2, ?_, ?_⟩
      · rw [zs_length, ordF_length, ← hkl]
      · rw [zs_length, ordF_length, ← hkl]; exact O2
theorem roundR27 (shops step : Int) (h : Eng.Heap) : CallsH Try.prog 27 #[.int .i64 shops, .int .i64 step] h (fun v h' => Ext h h' ∧ ((openE shops [step] ≠ 0 ∧ v = .tuple #[.slice none 0 0, .int .i64 (openE shops [step])]) ∨
    (openE shops [step] = 0 ∧ ∃ u, v = .tuple #[u, .int .i64 0] ∧ NewI h.size h' 3 u (zs (roundL shops.toNat step))))) := by
  refine CallsH_of_exec Try.func27 rfl bod27 ?_
  simp only [Try.ntmps27, Try.results27, coreS, stK_some, splice, Value.cells, Value.oneCell', Nat.reduceAdd, Nat.reduceSub, Nat.reduceMul, Nat.reduceLeDiff, Int.reduceEq, Nat.reduceEqDiff]
  refine CallsH.mono (stepped62 _ _ _) ?_
  rintro v h1 ⟨rfl, rfl⟩
  by_cases h0 : openE shops [step] = 0
  · obtain ⟨hsh, hst⟩ := openE_one h0
    obtain ⟨n, rfl⟩ : ∃ n : Nat, shops = n := ⟨shops.toNat, by omega⟩
    simp only [h0, coreS, Value.cells, Value.oneCell', Nat.reduceAdd, Nat.reduceSub, Nat.reduceMul, Nat.reduceLeDiff, Int.reduceEq, Nat.reduceEqDiff]
    refine CallsH.mono (stepCode63 n step _ (by omega) (by omega) (by omega)) ?_
    rintro v h2 ⟨x2, a2, c2, rfl, O2⟩
    simp only [coreS, Value.cells, Value.oneCell', Nat.reduceAdd, Nat.reduceSub, Nat.reduceMul, Nat.reduceLeDiff, Int.reduceEq, Nat.reduceEqDiff]
    rw [zs_length, stepC_length] at O2
    rw [zs_length, stepC_length]
    refine CallsH.mono (orderOf54 n a2 n c2 (stepC n step) _ O2.ints (stepC_fits n step) (by omega) (Nat.le_refl _)) ?_
    rintro v h3 ⟨x3, N⟩
    simp only [coreS, Value.cells, Value.oneCell', Nat.reduceAdd, Nat.reduceSub, Nat.reduceMul, Nat.reduceLeDiff, Int.reduceEq, Nat.reduceEqDiff]
    exact ⟨x2.trans x3, .inr ⟨v, rfl, N.mono x2.size⟩⟩
  · simp only [h0, coreS, Value.cells, Value.oneCell', Nat.reduceAdd, Nat.reduceSub, Nat.reduceMul, Nat.reduceLeDiff, Int.reduceEq, Nat.reduceEqDiff]
    refine CallsH.mono (stepped62 _ _ _) ?_
    rintro v h2 ⟨rfl, rfl⟩
    simp only [coreS, Value.cells, Value.oneCell', Nat.reduceAdd, Nat.reduceSub, Nat.reduceMul, Nat.reduceLeDiff, Int.reduceEq, Nat.reduceEqDiff]
    exact ⟨Ext.refl _, .inl h0⟩
theorem lastR29 (shops step : Int) (h : Eng.Heap) : CallsH Try.prog 29 #[.int .i64 shops, .int .i64 step] h (fun v h' => v = .tuple #[.int .i64 (if openE shops [step] = 0 then lastF step shops.toNat else 0), .int .i64 (openE shops [step])] ∧ Ext h h') := by
  refine CallsH_of_exec Try.func29 rfl bod29 ?_
  simp only [Try.ntmps29, Try.results29, coreS, stK_some, splice, Value.cells, Value.oneCell', Nat.reduceAdd, Nat.reduceSub, Nat.reduceMul, Nat.reduceLeDiff, Int.reduceEq, Nat.reduceEqDiff, agg3, by3, inf3, sz3, Try.underlying22]
  refine CallsH.mono (roundR27 ..) ?_
  rintro v h1 ⟨x1, ⟨hne, rfl⟩ | ⟨h0, u, rfl, a1, c1, rfl, O1⟩⟩
  · simp only [hne, coreS, Value.cells, Value.oneCell', Nat.reduceAdd, Nat.reduceSub, Nat.reduceMul, Nat.reduceLeDiff, Int.reduceEq, Nat.reduceEqDiff, agg3, by3, inf3, sz3, Try.underlying22]
    exact x1
  · obtain ⟨hsh, hst⟩ := openE_one h0
    obtain ⟨n, rfl⟩ : ∃ n : Nat, shops = ((n + 1 : Nat) : Int) := ⟨shops.toNat - 1, by omega⟩
    rw [zs_length, roundL_length] at O1
    have e1 : ((n + 1 : Nat) : Int) - 1 = (n : Int) := by omega
    have hl := round_last n step
    have hc := O1.ints.cell (j := n) (by rw [zs_length, roundL_length]; simp)
    simp only [Int.toNat_natCast] at hc
    rw [hl] at hc
    simp only [h0, e1, zs_length, roundL_length, Int.toNat_natCast, coreS, Value.cells, Value.oneCell', Nat.reduceAdd, Nat.reduceSub, Nat.reduceMul, Nat.reduceLeDiff, Int.reduceEq, Nat.reduceEqDiff, agg3, by3, inf3, sz3, Try.underlying22]
    repeat (refine And.intro (by first | omega | (rw [inK_i64]; omega) | rfl | assumption | (exact O1.ints.isSome (by rw [zs_length, roundL_length]; simp))) ?_)
    simp only [hc, coreS, Value.cells, Value.oneCell', Nat.reduceAdd, Nat.reduceSub, Nat.reduceMul, Nat.reduceLeDiff, Int.reduceEq, Nat.reduceEqDiff, agg3, by3, inf3, sz3, Try.underlying22]
    exact x1
end Go.Proofs.Ytoediaepoddonaa
