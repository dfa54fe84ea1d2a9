/- Walks: begunError, CodeOf, codes; Find, of the program and of the reference. -/
import Derived.Test.YtoediaepoddonaaT12
namespace Go.Proofs.Ytoediaepoddonaa
open Go Go.Proofs Go.Eng Go.Run Tab
set_option maxRecDepth 100000
set_option linter.unusedSimpArgs false
set_option linter.unusedVariables false
set_option maxHeartbeats 1000000
theorem nodup_take {xs : List Int} : xs.Nodup ↔ ∀ i < xs.length, xs.getD i 0 ∉ xs.take i := by
  constructor
  · intro h i hi hm
    obtain ⟨j, hj, he⟩ := List.getElem_of_mem hm
    rw [List.length_take] at hj
    rw [List.getElem_take, List.getD, List.getElem?_eq_getElem hi] at he
    exact (List.pairwise_iff_getElem.1 h) j i (by omega) hi (by omega) he
  · intro H
    unfold List.Nodup
    rw [List.pairwise_iff_getElem]
    intro i j hi hj hij he
    apply H j hj
    rw [List.getD, List.getElem?_eq_getElem hj]
    show xs[j] ∈ _
    rw [← he]
    have : i < (xs.take j).length := by rw [List.length_take]; omega
    have h2 := List.getElem_mem this
    rwa [List.getElem_take] at h2
theorem begunError57 (shops : Int) (a : Option Addr) (n c : Nat) (xs : List Int) (h : Eng.Heap) (hv : IntsV h a n xs) (hc : n ≤ c) (hl : n ≤ 1000000) :
    CallsH Try.prog 57 #[.int .i64 shops, .slice a n c] h (fun v h' => v = .int .i64 (begE shops xs) ∧ h' = h) := by
  have hn := hv.len
  refine CallsH_of_exec Try.func57 rfl bod57 ?_
  simp only [Try.ntmps57, Try.results57, coreS, stK_some, splice, Value.cells, Value.oneCell', Nat.reduceAdd, Nat.reduceSub, Nat.reduceMul, Nat.reduceLeDiff, Int.reduceEq, Nat.reduceEqDiff, agg3, by3, inf3, sz3, Try.underlying22]
  refine CallsH.mono (isShops61 _ _) ?_
  rintro v h1 ⟨rfl, rfl⟩
  by_cases h0 : openE shops [] = 0
  · have hsh : 1 ≤ shops ∧ shops ≤ 12 := by
      have := openE_ne (n := shops)
      omega
    simp only [h0, coreS, Value.cells, Value.oneCell', Nat.reduceAdd, Nat.reduceSub, Nat.reduceMul, Nat.reduceLeDiff, Int.reduceEq, Nat.reduceEqDiff, agg3, by3, inf3, sz3, Try.underlying22]
    refine ⟨fun hgt => ?_, fun hle => ?_⟩
    · rw [begE, if_pos hsh, if_pos (by omega)]
    have hxl : ¬ ((xs.length : Int) > shops) := by omega
    refine WP_loopI [4, 5, 16, 17, 18, 19, 20, 21, 22, 23, 24, 25, 26, 27, 28, 29, 30, 31, 32, 33, 34] (fun g h' => h' = h1 ∧ ∃ i : Nat, i ≤ n ∧ g 5 = .int .i64 i ∧ ∀ j < i, 0 ≤ xs.getD j 0 ∧ xs.getD j 0 < shops) (fun g _ => match g 5 with | .int _ m => n - m.toNat | _ => 0) ⟨rfl, 0, by omega, rfl, fun j hj => by omega⟩ ?_
    rintro g h' ⟨rfl, i, hi, hg, hno⟩
    simp only [hg, coreS, Value.cells, Value.oneCell', Nat.reduceAdd, Nat.reduceSub, Nat.reduceMul, Nat.reduceLeDiff, Int.reduceEq, Nat.reduceEqDiff, agg3, by3, inf3, sz3, Try.underlying22]
    refine ⟨fun hlt => ?_, fun hge => ?_⟩
    · have hil : i < xs.length := by omega
      simp only [hv.cell hil, coreS, Value.cells, Value.oneCell', Nat.reduceAdd, Nat.reduceSub, Nat.reduceMul, Nat.reduceLeDiff, Int.reduceEq, Nat.reduceEqDiff, agg3, by3, inf3, sz3, Try.underlying22]
      repeat (refine And.intro (by first | omega | (rw [inK_i64]; omega) | rfl | assumption | (exact hv.isSome (by omega))) ?_)
      have bad : ¬ (0 ≤ xs.getD i 0 ∧ xs.getD i 0 < shops) → begE shops xs = 3 := fun hb => by
        rw [begE, if_pos hsh, if_neg hxl, if_neg]
        simp only [inB, List.all_eq_true, Bool.and_eq_true, decide_eq_true_eq]
        intro H
        have := H _ (getD_mem hil)
        omega
      refine ⟨fun hb => ?_, fun hb => ?_⟩
      · rw [bad (by omega)]
      · repeat (refine And.intro (by first | omega | (rw [inK_i64]; omega) | rfl | assumption | (exact hv.isSome (by omega))) ?_)
        refine ⟨fun hb2 => ?_, fun hb2 => ⟨by rw [inK_i64]; omega, roundK_mk (by kernel_rfl) ⟨rfl, i + 1, by omega, rfl, fun j hj => ?_⟩ ?_⟩⟩
        · rw [bad (by omega)]
        · rcases Nat.lt_or_ge j i with h3 | h3
          · exact hno j h3
          · have : j = i := by omega
            subst this
            omega
        · show n - ((i : Int) + 1).toNat < n - (i : Int).toNat
          omega
    · have hin : inB 0 (shops - 1) xs = true := by
        simp only [inB, List.all_eq_true, Bool.and_eq_true, decide_eq_true_eq]
        intro x hx
        obtain ⟨j, hj, rfl⟩ := mem_getD hx
        have := hno j (by omega)
        omega
      refine WP_loopI [4, 6, 35, 36, 37, 38, 39, 40, 41, 42, 43, 44, 45, 46, 47, 48] (fun g h2 => h2 = h' ∧ ∃ i : Nat, i ≤ n ∧ g 6 = .int .i64 i ∧ ∀ j < i, xs.getD j 0 ∉ xs.take j) (fun g _ => match g 6 with | .int _ m => n - m.toNat | _ => 0) ⟨rfl, 0, by omega, rfl, fun j hj => by omega⟩ ?_
      rintro g h2 ⟨rfl, i, hi, hg, hnd⟩
      simp only [hg, coreS, Value.cells, Value.oneCell', Nat.reduceAdd, Nat.reduceSub, Nat.reduceMul, Nat.reduceLeDiff, Int.reduceEq, Nat.reduceEqDiff, agg3, by3, inf3, sz3, Try.underlying22]
      refine ⟨fun hlt => ?_, fun hge => ?_⟩
      · have hil : i < xs.length := by omega
        refine WP_draw (by kernel_rfl) sta_eq [(0, 0), (1, 0), (2, 0), (3, 0), (4, 0), (5, 0), (6, 0), (7, 0)] (by kernel_rfl) rfl (by kernel_rfl) ?_
        simp only [hv.cell hil, coreS, Value.cells, Value.oneCell', Nat.reduceAdd, Nat.reduceSub, Nat.reduceMul, Nat.reduceLeDiff, Int.reduceEq, Nat.reduceEqDiff, drawS, agg3, by3, inf3, sz3, Try.underlying22]
        repeat (refine And.intro (by first | omega | (rw [inK_i64]; omega) | rfl | assumption | (exact hv.isSome (by omega))) ?_)
        have e2 : ((i : Int) - ((0 : Nat) : Int)).toNat = i - 0 := by omega
        rw [e2]
        have I := intsV_slice (c := c) hv (Nat.zero_le i) hi hc
        refine cQ_eq _ (has80 _ _ _ _ (xs.getD i 0) _ I (by omega)) ?_
        simp only [Nat.sub_zero, List.drop_zero, hvK_eq, coreS, Value.cells, Value.oneCell', Nat.reduceAdd, Nat.reduceSub, Nat.reduceMul, Nat.reduceLeDiff, Int.reduceEq, Nat.reduceEqDiff, drawS, agg3, by3, inf3, sz3, Try.underlying22]
        refine ⟨fun hm => ?_, fun hm => ⟨by rw [inK_i64]; omega, roundK_mk (by kernel_rfl) ⟨rfl, i + 1, by omega, rfl, fun j hj => ?_⟩ ?_⟩⟩
        · rw [begE, if_pos hsh, if_neg hxl, if_pos hin, if_neg]
          rw [nodup_take]
          exact fun H => H i hil hm
        · rcases Nat.lt_or_ge j i with h3 | h3
          · exact hnd j h3
          · have : j = i := by omega
            subst this
            exact hm
        · show n - ((i : Int) + 1).toNat < n - (i : Int).toNat
          omega
      · rw [begE, if_pos hsh, if_neg hxl, if_pos hin, if_pos]
        rw [nodup_take]
        exact fun j hj => hnd j (by omega)
  · have hsh := openE_ne.1 h0
    simp only [h0, coreS, Value.cells, Value.oneCell', Nat.reduceAdd, Nat.reduceSub, Nat.reduceMul, Nat.reduceLeDiff, Int.reduceEq, Nat.reduceEqDiff, agg3, by3, inf3, sz3, Try.underlying22]
    rw [begE, if_neg hsh]
theorem begE_ok {shops : Int} {xs : List Int} (h : begE shops xs = 0) : ∃ n : Nat, shops = n ∧ 1 ≤ n ∧ n ≤ 12 ∧ xs.length ≤ n ∧ zs (natL xs) = xs ∧ begF (List.range n) (natL xs) := by
  unfold begE at h
  split at h
  · rename_i hs
    split at h
    · omega
    · rename_i hl
      split at h
      · rename_i hb
        split at h
        · rename_i hnd
          simp only [inB, List.all_eq_true, Bool.and_eq_true, decide_eq_true_eq] at hb
          have hz : zs (natL xs) = xs := zs_natL fun x hx => (hb x hx).1
          refine ⟨shops.toNat, by omega, by omega, by omega, by omega, hz, ?_, fun x hx => ?_⟩
          · rw [← hz] at hnd
            exact (List.pairwise_map.1 hnd).imp fun h1 h2 => h1 (by rw [h2])
          · rw [List.mem_range]
            simp only [natL, List.mem_map] at hx
            obtain ⟨y, hy, rfl⟩ := hx
            have := hb y hy
            omega
        · omega
      · omega
  · omega
/-- The code of a beginning, by the reference. -/
theorem codeOf58 (n : Nat) (a : Option Addr) (k c : Nat) (xs : List Nat) (h : Eng.Heap) (hv : IntsV h a k (zs xs)) (hb : begF (List.range n) xs) (hn : n ≤ 1000) (hk : k ≤ n) :
    CallsH Try.prog 58 #[.int .i64 n, .slice a k c] h (fun v h' => Ext h h' ∧ NewI h.size h' 3 v (zs (codeF (List.range n) xs))) := by
  have hkl := hv.len
  rw [zs_length] at hkl
  have hf := code_fits xs _ hb
  rw [List.length_range] at hf
  refine CallsH_of_exec Try.func58 rfl bod58 ?_
  simp only [Try.ntmps58, Try.results58, coreS, stK_some, splice, Value.cells, Value.oneCell', Nat.reduceAdd, Nat.reduceSub, Nat.reduceMul, Nat.reduceLeDiff, Int.reduceEq, Nat.reduceEqDiff, agg3, by3, inf3, sz3, zero3, Try.underlying22]
  refine CallsH.mono (all50 n h hn) ?_
  rintro v h1 ⟨x1, a1, c1, rfl, O1⟩
  rw [zs_length, List.length_range] at O1
  simp only [zs_length, List.length_range, coreS, Value.cells, Value.oneCell', Nat.reduceAdd, Nat.reduceSub, Nat.reduceMul, Nat.reduceLeDiff, Int.reduceEq, Nat.reduceEqDiff, agg3, by3, inf3, sz3, zero3, Try.underlying22]
  refine WP_loopI [5, 6, 7, 8, 11, 12, 13, 14, 15, 16, 17, 18, 19, 20, 21, 22, 23, 24, 25, 26, 27, 28, 29, 30, 31, 32, 33, 34] (fun g h' => ∃ i : Nat, i ≤ k ∧ g 7 = .int .i64 i ∧ Ext h h' ∧ ∃ a2 c2 al cl, g 6 = .slice a2 i c2 ∧ OwnI h.size h' 3 a2 i c2 (zs (codeF (List.range n) (xs.take i))) ∧
    g 5 = .slice al (n - i) cl ∧ OwnI h.size h' 3 al (n - i) cl (zs (aft (List.range n) (codeF (List.range n) (xs.take i)))) ∧ Apart a2 al) (fun g _ => match g 7 with | .int _ m => k - m.toNat | _ => 0) ?_ ?_
  · exact ⟨0, by omega, rfl, x1, none, 0, a1, c1, rfl, OwnI.nil _ _ _, rfl, O1, Apart.none_left⟩
  · rintro g h' ⟨i, hi, hg7, x, a2, c2, al, cl, hg6, O2, hg5, Ol, hne⟩
    simp only [hg7, hg6, hg5, coreS, Value.cells, Value.oneCell', Nat.reduceAdd, Nat.reduceSub, Nat.reduceMul, Nat.reduceLeDiff, Int.reduceEq, Nat.reduceEqDiff, agg3, by3, inf3, sz3, zero3, Try.underlying22]
    refine ⟨fun hlt => ?_, fun hge => ?_⟩
    · have hik : i < xs.length := by omega
      have hil : i < (zs xs).length := by rw [zs_length]; exact hik
      obtain ⟨L, hL⟩ : ∃ L, L = aft (List.range n) (codeF (List.range n) (xs.take i)) := ⟨_, rfl⟩
      have hft : fits n (codeF (List.range n) (xs.take i)) := by rw [codeF_take]; exact fits_take _ _ _ hf
      have hLl : L.length = n - i := by
        rw [hL, aft_length _ _ (by rw [List.length_range]; exact hft), List.length_range, codeF_length, List.length_take]; omega
      have hmem : xs.getD i 0 ∈ L := by
        rw [hL]
        refine aft_mem _ _ _ ?_
        rw [← take_next hik]
        exact begF_take hb _
      rw [← hL] at Ol
      have hix := List.idxOf_lt_length_of_mem hmem
      refine WP_loopI [8, 17, 18, 19, 20, 21, 22, 23, 24, 25, 26, 27] (fun g h2 => h2 = h' ∧ ∃ j : Nat, j ≤ L.idxOf (xs.getD i 0) ∧ g 8 = .int .i64 j) (fun g _ => match g 8 with | .int _ m => n - m.toNat | _ => 0) ⟨rfl, 0, by omega, rfl⟩ ?_
      rintro g h2 ⟨rfl, j, hj, hg8⟩
      have hjl : j < (zs L).length := by rw [zs_length]; omega
      simp only [hg8, coreS, Value.cells, Value.oneCell', Nat.reduceAdd, Nat.reduceSub, Nat.reduceMul, Nat.reduceLeDiff, Int.reduceEq, Nat.reduceEqDiff, agg3, by3, inf3, sz3, zero3, Try.underlying22]
      refine WP_draw (by kernel_rfl) sta_eq [(0, 0), (1, 0), (2, 0), (3, 0), (4, 0), (5, 0), (6, 0), (7, 0), (8, 0)] (by kernel_rfl) rfl (by kernel_rfl) ?_
      simp only [(hv.ext x).cell hil, Ol.ints.cell hjl, zs_get, hvK_eq, coreS, Value.cells, Value.oneCell', Nat.reduceAdd, Nat.reduceSub, Nat.reduceMul, Nat.reduceLeDiff, Int.reduceEq, Nat.reduceEqDiff, drawS, agg3, by3, inf3, sz3, zero3, Try.underlying22]
      repeat (refine And.intro (by first | omega | (rw [inK_i64]; omega) | rfl | assumption | (exact (hv.ext x).isSome (by omega)) | (exact Ol.ints.isSome (by omega))) ?_)
      refine ⟨fun heq => ?_, fun hne2 => ?_⟩
      · have heq' : L.getD j 0 = xs.getD i 0 := by omega
        have hji : j = L.idxOf (xs.getD i 0) := by
          have hnd : L.Nodup := by
            have h5 := ord_perm (codeF (List.range n) (xs.take i)) (List.range n) (by rw [List.length_range]; exact hft)
            have h6 := (h5.nodup_iff.2 List.nodup_range)
            rw [List.nodup_append] at h6
            rw [hL]
            exact h6.2.1
          rw [← heq', idx_get (by omega) hnd]
        have O2' := O2.ext ((Ext.refl h2).push (.cells #[.int .i64 (j : Nat)] 3))
        have Ol' := Ol.ext ((Ext.refl h2).push (.cells #[.int .i64 (j : Nat)] 3))
        repeat (refine And.intro (by first | omega | (rw [inK_i64]; omega) | rfl | assumption) ?_)
        refine app22 rfl rfl O2' (by have := x.size; simp; omega) intsV_one (by omega) fun a3 c3 h3 O3 A => ?_
        have x3 := A.extN O2' (x.push _) (Nat.le_refl _)
        have Ol3 := Ol'.beside (xs := []) (len := 0) (cap := 0) (m := 0) (el := 3) A hne
        simp only [hg8, coreS, Value.cells, Value.oneCell', Nat.reduceAdd, Nat.reduceSub, Nat.reduceMul, Nat.reduceLeDiff, Int.reduceEq, Nat.reduceEqDiff, agg3, by3, inf3, sz3, zero3, Try.underlying22]
        refine CallsH.mono (turned83 al (n - i) cl j (zs L) h3 Ol3.ints Ol3.cap (by omega) (by omega)) ?_
        rintro v h4 ⟨x4, a4, c4, rfl, O4⟩
        rw [turnedZ_zs, zs_length, turned_length (by omega), hLl] at O4
        rw [turnedZ_zs, zs_length, turned_length (by omega), hLl]
        simp only [coreS, Value.cells, Value.oneCell', Nat.reduceAdd, Nat.reduceSub, Nat.reduceMul, Nat.reduceLeDiff, Int.reduceEq, Nat.reduceEqDiff, agg3, by3, inf3, sz3, zero3, Try.underlying22]
        have e1 : n - i - 1 = n - (i + 1) := by omega
        rw [e1] at O4
        rw [e1]
        refine ⟨by rw [inK_i64]; omega, roundK_mk (by kernel_rfl) ⟨i + 1, by omega, rfl, x3.trans x4, a3, c3, a4, c4, rfl, ?_, rfl, ?_, O3.apart O4 (Nat.le_refl _)⟩ ?_⟩
        · rw [take_next hik, codeF_snoc, zs_append, ← hL, ← hji]
          exact O3.ext x4
        · rw [take_next hik, codeF_snoc, aft_snoc, ← hL, ← hji]
          exact O4.mono x3.size
        · show k - ((i : Int) + 1).toNat < k - (i : Int).toNat
          omega
      · have : j ≠ L.idxOf (xs.getD i 0) := fun he => hne2 (by rw [he, get_idx hmem])
        refine ⟨by rw [inK_i64]; omega, roundK_mk (by kernel_rfl) ⟨rfl, j + 1, by omega, rfl⟩ ?_⟩
        show n - ((j : Int) + 1).toNat < n - (j : Int).toNat
        omega
    · have : i = k := by omega
      subst this
      rw [List.take_of_length_le (by omega)] at O2
      refine ⟨x, a2, c2, ?_, ?_⟩
      · rw [zs_length, codeF_length, ← hkl]
      · rw [zs_length, codeF_length, ← hkl]; exact O2
def codeZ (shops : Int) (xs : List Int) : List Int := if begE shops xs = 0 then zs (codeF (List.range shops.toNat) (natL xs)) else []
theorem code21 (a : Option Addr) (n c : Nat) (xs : List Int) (h : Eng.Heap) (hv : IntsV h a n xs) (hl : n ≤ 1000000) :
    CallsH Try.prog 21 #[.slice a n c] h (fun v h' => Ext h h' ∧ ListP (begE n xs) (codeZ n xs) h' v) := by
  have hn := hv.len
  refine CallsH_of_exec Try.func21 rfl bod21 ?_
  simp only [Try.ntmps21, Try.results21, coreS, stK_some, splice, Value.cells, Value.oneCell', Nat.reduceAdd, Nat.reduceSub, Nat.reduceMul, Nat.reduceLeDiff, Int.reduceEq, Nat.reduceEqDiff, Try.underlying22]
  refine CallsH.mono (begun55 n a n c xs h hv hl) ?_
  rintro v h1 ⟨x1, ⟨h0, b, rfl, hb, hb2⟩ | ⟨hne, rfl⟩⟩
  · obtain ⟨k, hk, hk1, hk2, hxl, hz, hbf⟩ := begE_ok h0
    obtain rfl : n = k := by omega
    simp only [h0, coreS, Value.cells, Value.oneCell', Nat.reduceAdd, Nat.reduceSub, Nat.reduceMul, Nat.reduceLeDiff, Int.reduceEq, Nat.reduceEqDiff, Try.underlying22]
    have R0 := Rnd0.new hk1 hk2 hb
    have hv' := hv
    rw [← hz] at hv'
    refine CallsH.mono (code56 b n n c a (natL xs) h1 h hk1 hk2 R0 x1 hb2 hbf hv' (by rw [natL_length]; omega)) ?_
    rintro v h2 ⟨x2, _, b2, rfl, hb3, hb4⟩
    simp only [coreS, Value.cells, Value.oneCell', Nat.reduceAdd, Nat.reduceSub, Nat.reduceMul, Nat.reduceLeDiff, Int.reduceEq, Nat.reduceEqDiff, Try.underlying22]
    refine ⟨x2, some ⟨b2, 0, none⟩, _, _, rfl, by rw [natL_length]; omega, Nat.le_refl _, ?_⟩
    rw [codeZ, if_pos h0, Int.toNat_natCast]
    have := IntsV.block hb4
    rw [zs_length, codeF_length] at this
    exact this
  · simp only [hne, coreS, Value.cells, Value.oneCell', Nat.reduceAdd, Nat.reduceSub, Nat.reduceMul, Nat.reduceLeDiff, Int.reduceEq, Nat.reduceEqDiff, Try.underlying22]
    exact ⟨x1, listP_err _ (if_neg hne)⟩
theorem codeR22 (a : Option Addr) (n c : Nat) (xs : List Int) (h : Eng.Heap) (hv : IntsV h a n xs) (hc : n ≤ c) (hl : n ≤ 1000000) :
    CallsH Try.prog 22 #[.slice a n c] h (fun v h' => Ext h h' ∧ ListP (begE n xs) (codeZ n xs) h' v) := by
  have hn := hv.len
  refine CallsH_of_exec Try.func22 rfl bod22 ?_
  simp only [Try.ntmps22, Try.results22, coreS, stK_some, splice, Value.cells, Value.oneCell', Nat.reduceAdd, Nat.reduceSub, Nat.reduceMul, Nat.reduceLeDiff, Int.reduceEq, Nat.reduceEqDiff, Try.underlying22]
  refine CallsH.mono (begunError57 n a n c xs h hv hc hl) ?_
  rintro v h1 ⟨rfl, rfl⟩
  by_cases h0 : begE n xs = 0
  · obtain ⟨k, hk, hk1, hk2, hxl, hz, hbf⟩ := begE_ok h0
    obtain rfl : n = k := by omega
    simp only [h0, coreS, Value.cells, Value.oneCell', Nat.reduceAdd, Nat.reduceSub, Nat.reduceMul, Nat.reduceLeDiff, Int.reduceEq, Nat.reduceEqDiff, Try.underlying22]
    have hv' := hv
    rw [← hz] at hv'
    refine CallsH.mono (codeOf58 n a n c (natL xs) h1 hv' hbf (by omega) (by omega)) ?_
    rintro v h2 ⟨x2, a2, c2, rfl, O2⟩
    simp only [coreS, Value.cells, Value.oneCell', Nat.reduceAdd, Nat.reduceSub, Nat.reduceMul, Nat.reduceLeDiff, Int.reduceEq, Nat.reduceEqDiff, Try.underlying22]
    refine ⟨x2, a2, _, c2, rfl, ?_, O2.cap, ?_⟩
    · rw [zs_length, codeF_length, natL_length]; omega
    · rw [codeZ, if_pos h0, Int.toNat_natCast]
      exact O2.ints
  · simp only [h0, coreS, Value.cells, Value.oneCell', Nat.reduceAdd, Nat.reduceSub, Nat.reduceMul, Nat.reduceLeDiff, Int.reduceEq, Nat.reduceEqDiff, Try.underlying22]
    refine CallsH.mono (begunError57 n a n c xs h1 hv hc hl) ?_
    rintro v h2 ⟨rfl, rfl⟩
    simp only [coreS, Value.cells, Value.oneCell', Nat.reduceAdd, Nat.reduceSub, Nat.reduceMul, Nat.reduceLeDiff, Int.reduceEq, Nat.reduceEqDiff, Try.underlying22]
    exact ⟨Ext.refl _, listP_err _ (if_neg h0)⟩
end Go.Proofs.Ytoediaepoddonaa
