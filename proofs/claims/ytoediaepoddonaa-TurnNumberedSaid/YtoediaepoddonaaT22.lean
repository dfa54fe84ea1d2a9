/- Walks: Number, of the program and of the reference; Numbered. -/
import Derived.Test.YtoediaepoddonaaT21
import Derived.Test.YtoediaepoddonaaL6
namespace Go.Proofs.Ytoediaepoddonaa
open Go Go.Proofs Go.Eng Go.Run Tab
set_option maxRecDepth 100000
set_option linter.unusedSimpArgs false
set_option linter.unusedVariables false
set_option maxHeartbeats 1000000
/-- The number of an order, none where there is an error. -/
def numZ (n : Nat) (xs : List Int) : Int := if begE n xs = 0 then (numN n (natL xs) : Nat) else 0
theorem beg_whole {n : Nat} {xs : List Int} (h : begE n xs = 0) (hl : xs.length = n) : (natL xs).Perm (List.range n) ∧ zs (natL xs) = xs ∧ 1 ≤ n ∧ n ≤ 12 := by
  obtain ⟨k, hk, h1, h2, h3, hz, hb⟩ := begE_ok h
  obtain rfl : n = k := by omega
  refine ⟨?_, hz, h1, h2⟩
  have hf := code_fits _ _ hb
  rw [List.length_range] at hf
  have hp := ord_perm (codeF (List.range n) (natL xs)) (List.range n) (by rw [List.length_range]; exact hf)
  have ha : (aft (List.range n) (codeF (List.range n) (natL xs))).length = 0 := by
    rw [aft_length _ _ (by rw [List.length_range]; exact hf), List.length_range, codeF_length, natL_length]; omega
  rw [ord_code _ _ hb, List.length_eq_zero_iff.1 ha, List.append_nil] at hp
  exact hp
theorem number38 (a : Option Addr) (n c : Nat) (xs : List Int) (h : Eng.Heap) (hv : IntsV h a n xs) (hl : n ≤ 1000000) :
    CallsH Try.prog 38 #[.slice a n c] h (fun v h' => Ext h h' ∧ v = .tuple #[.int .i64 (numZ n xs), .int .i64 (begE n xs)]) := by
  have hn := hv.len
  refine CallsH_of_exec Try.func38 rfl bod38 ?_
  simp only [Try.ntmps38, Try.results38, coreS, stK_some, splice, Value.cells, Value.oneCell', Nat.reduceAdd, Nat.reduceSub, Nat.reduceMul, Nat.reduceLeDiff, Int.reduceEq, Nat.reduceEqDiff, agg3, by3, inf3, sz3, Try.underlying22]
  refine CallsH.mono (begun55 n a n c xs h hv hl) ?_
  rintro v h1 ⟨x1, ⟨h0, b, rfl, hb, hb2⟩ | ⟨hne, rfl⟩⟩
  · obtain ⟨hp, hz, hn1, hn2⟩ := beg_whole h0 hn.symm
    have e0 : numZ n xs = (numN n (natL xs) : Nat) := if_pos h0
    simp only [h0, coreS, Value.cells, Value.oneCell', Nat.reduceAdd, Nat.reduceSub, Nat.reduceMul, Nat.reduceLeDiff, Int.reduceEq, Nat.reduceEqDiff, agg3, by3, inf3, sz3, Try.underlying22]
    refine CallsH.mono (values75 a n c h1) ?_
    rintro v h2 ⟨rfl, rfl⟩
    simp only [coreS, Value.cells, Value.oneCell', Nat.reduceAdd, Nat.reduceSub, Nat.reduceMul, Nat.reduceLeDiff, Int.reduceEq, Nat.reduceEqDiff, agg3, by3, inf3, sz3, Try.underlying22]
    refine CallsH.mono (sorted74 _ xs _ (values_seq (a := a) (c := c) hn hl) (by omega) fun h' x => ⟨x.get push_new, ((hv.ext x1).push _).ext x⟩) ?_
    rintro v h3 ⟨x3, ys, hyp, hsr, a3, c3, rfl, O3⟩
    have hys : ys = zs (List.range n) := by
      refine sorted_perm (hyp.trans ?_) hsr
      rw [← hz]
      exact List.Perm.map _ hp
    subst hys
    rw [zs_length, List.length_range] at O3
    obtain ⟨g, tl, rfl, _⟩ := O3.block (by omega)
    have xx3 : Ext h h3 := (x1.push _).trans x3
    have hbf := begF_perm hp List.nodup_range
    obtain ⟨ds, hds⟩ : ∃ ds, ds = digF (List.range n) (natL xs) := ⟨_, rfl⟩
    have hdf := dig_fits _ _ hbf
    rw [List.length_range, ← hds] at hdf
    have hdl : ds.length = n := by rw [hds, digF_length, natL_length]; omega
    have hN : numN n (natL xs) = numD n ds := by rw [hds]; rfl
    have hNlt := numD_lt ds n hdf
    have hfn := facF_le n hn2
    simp only [zs_length, List.length_range, coreS, Value.cells, Value.oneCell', Nat.reduceAdd, Nat.reduceSub, Nat.reduceMul, Nat.reduceLeDiff, Int.reduceEq, Nat.reduceEqDiff, agg3, by3, inf3, sz3, Try.underlying22]
    refine WP_loopI [6, 7, 9, 10, 26, 27, 28, 29, 30, 31, 32, 33, 34, 35, 36, 37, 38, 39, 40, 41, 42, 43, 44] (fun e h' => Ext h h' ∧ ∃ (i acc c4 : Nat), i ≤ n ∧ e 26 = .int .i64 i ∧ e 6 = .int .i64 acc ∧ acc * facF (n - i) + numD (n - i) (ds.drop i) = numD n ds ∧ e 7 = .slice (some ⟨g, 0, none⟩) (n - i) c4 ∧ OwnI h.size h' 3 (some ⟨g, 0, none⟩) (n - i) c4 (zs (restL (List.range n) (ds.take i)))) (fun e _ => match e 26 with | .int _ m => n - m.toNat | _ => 0) ?_ ?_
    · exact ⟨xx3, 0, 0, c3, by omega, rfl, rfl, by simp, rfl, O3.mono (by have := x1.size; simp; omega)⟩
    · rintro e h' ⟨x, i, acc, c4, hi, he26, he6, hacc, he7, O⟩
      have hga := O.lt rfl
      simp only [he26, he6, he7, coreS, Value.cells, Value.oneCell', Nat.reduceAdd, Nat.reduceSub, Nat.reduceMul, Nat.reduceLeDiff, Int.reduceEq, Nat.reduceEqDiff, agg3, by3, inf3, sz3, Try.underlying22]
      refine ⟨fun hlt => ?_, fun hge => ?_⟩
      · have hil : i < xs.length := by omega
        have hil2 : i < (natL xs).length := by rw [natL_length]; exact hil
        have hx0 : xs.getD i 0 = (((natL xs).getD i 0 : Nat) : Int) := by
          conv => lhs; rw [← hz]
          rw [zs_get]
        obtain ⟨sh, hsh⟩ : ∃ sh, sh = (natL xs).getD i 0 := ⟨_, rfl⟩
        rw [← hsh] at hx0
        obtain ⟨L, hL⟩ : ∃ L, L = restL (List.range n) (ds.take i) := ⟨_, rfl⟩
        have hLl : L.length = n - i := by
          rw [hL, restL_length _ _ (by rw [List.length_range]; exact fits_take _ _ _ hdf), List.length_range, List.length_take]; omega
        have hbt := begF_take hbf (i + 1)
        rw [take_next hil2, ← hsh] at hbt
        have hm : sh ∈ L := by
          have := rest_mem _ _ _ hbt
          rw [digF_take, ← hds, ← hL] at this
          exact this
        have hd : ds.getD i 0 = L.idxOf sh := by
          have h7 : digF (List.range n) ((natL xs).take (i + 1)) = ds.take (i + 1) := by rw [digF_take, hds]
          rw [take_next hil2, ← hsh, digF_snoc, digF_take, ← hds, ← hL, take_next (by omega)] at h7
          have := List.append_cancel_left h7
          exact (List.cons.inj this).1.symm
        rw [← hL] at O
        simp only [(hv.ext x).cell hil, hx0, coreS, Value.cells, Value.oneCell', Nat.reduceAdd, Nat.reduceSub, Nat.reduceMul, Nat.reduceLeDiff, Int.reduceEq, Nat.reduceEqDiff, agg3, by3, inf3, sz3, Try.underlying22]
        repeat (refine And.intro (by first | omega | (rw [inK_i64]; omega) | rfl | assumption | (exact (hv.ext x).isSome (by omega))) ?_)
        refine CallsH.mono (index65 (some ⟨g, 0, none⟩) (n - i) c4 (zs L) sh h' O.ints (by omega)) ?_
        rintro v h4 ⟨rfl, rfl⟩
        rw [idx_idxOf hm]
        have hix := List.idxOf_lt_length_of_mem hm
        have hdrop := numD_drop (n := n) (i := i) (ds := ds) (by omega)
        rw [hd] at hdrop
        have hfp := (facF_le (n - i) (by omega)).2
        have hfp1 := (facF_le (n - i - 1) (by omega)).2
        have ef : facF (n - i) = facF (n - i - 1) * (n - i) := by
          have : n - i = (n - i - 1) + 1 := by omega
          conv => lhs; rw [this]
          rw [facF_succ, ← this]
        have hacc1 : (acc * (n - i) + L.idxOf sh) * facF (n - (i + 1)) + numD (n - (i + 1)) (ds.drop (i + 1)) = numD n ds := by
          rw [← hacc, hdrop, ef, Nat.add_mul, show n - (i + 1) = n - i - 1 by omega, Nat.mul_assoc, Nat.mul_comm (n - i)]
          omega
        have hle1 : acc * (n - i) + L.idxOf sh ≤ numD n ds := by
          have h8 : (acc * (n - i) + L.idxOf sh) * 1 ≤ (acc * (n - i) + L.idxOf sh) * facF (n - (i + 1)) := Nat.mul_le_mul_left _ (by rw [show n - (i + 1) = n - i - 1 by omega]; exact hfp1)
          omega
        have em : (acc : Int) * ((n - i : Nat) : Int) + ((L.idxOf sh : Nat) : Int) = ((acc * (n - i) + L.idxOf sh : Nat) : Int) := by push_cast; rfl
        have em2 : (acc : Int) * ((n - i : Nat) : Int) = ((acc * (n - i) : Nat) : Int) := by push_cast; rfl
        simp only [em2, coreS, Value.cells, Value.oneCell', Nat.reduceAdd, Nat.reduceSub, Nat.reduceMul, Nat.reduceLeDiff, Int.reduceEq, Nat.reduceEqDiff, agg3, by3, inf3, sz3, Try.underlying22]
        generalize hpr : acc * (n - i) = pr at *
        repeat (refine And.intro (by first | omega | (rw [inK_i64]; omega) | rfl | assumption) ?_)
        refine CallsH.mono (delete76 h.size g (n - i) c4 (L.idxOf sh) (zs L) h4 O (by omega) (by omega)) ?_
        rintro v h5 ⟨rfl, u5, O5⟩
        simp only [coreS, Value.cells, Value.oneCell', Nat.reduceAdd, Nat.reduceSub, Nat.reduceMul, Nat.reduceLeDiff, Int.reduceEq, Nat.reduceEqDiff, agg3, by3, inf3, sz3, Try.underlying22]
        refine ⟨by rw [inK_i64]; omega, roundK_mk (by kernel_rfl) ⟨u5.ext x hga.2, i + 1, pr + L.idxOf sh, c4, by omega, rfl, by show Value.int _ _ = Value.int _ _; simp, hacc1, ?_, ?_⟩ ?_⟩
        · show Value.slice _ _ _ = Value.slice _ _ _
          rw [show n - (i + 1) = n - i - 1 by omega]
        · have e9 : (zs L).eraseIdx (L.idxOf sh) = zs (restL (List.range n) (ds.take (i + 1))) := by
            rw [take_next (by omega), restL_snoc, ← hL, hd]
            simp [zs, List.eraseIdx_eq_take_drop_succ, List.map_take, List.map_drop]
          rw [← e9, show n - (i + 1) = n - i - 1 by omega]
          exact O5
        · show n - ((i : Int) + 1).toNat < n - (i : Int).toNat
          omega
      · have hin : i = n := by omega
        subst hin
        rw [Nat.sub_self, List.drop_eq_nil_iff.2 (by omega)] at hacc
        have : acc = numD i ds := by rw [← hacc]; show acc = acc * 1 + 0; omega
        rw [e0, hN, ← this]
        exact ⟨x, rfl⟩
  · have e0 : numZ n xs = 0 := if_neg hne
    simp only [hne, coreS, Value.cells, Value.oneCell', Nat.reduceAdd, Nat.reduceSub, Nat.reduceMul, Nat.reduceLeDiff, Int.reduceEq, Nat.reduceEqDiff, agg3, by3, inf3, sz3, Try.underlying22]
    rw [e0]
    exact ⟨x1, rfl⟩
theorem numberR39 (a : Option Addr) (n c : Nat) (xs : List Int) (h : Eng.Heap) (hv : IntsV h a n xs) (hc : n ≤ c) (hl : n ≤ 1000000) :
    CallsH Try.prog 39 #[.slice a n c] h (fun v h' => v = .tuple #[.int .i64 (numZ n xs), .int .i64 (begE n xs)] ∧ h' = h) := by
  have hn := hv.len
  refine CallsH_of_exec Try.func39 rfl bod39 ?_
  simp only [Try.ntmps39, Try.results39, coreS, stK_some, splice, Value.cells, Value.oneCell', Nat.reduceAdd, Nat.reduceSub, Nat.reduceMul, Nat.reduceLeDiff, Int.reduceEq, Nat.reduceEqDiff, agg3, by3, inf3, sz3, Try.underlying22]
  refine CallsH.mono (begunError57 n a n c xs h hv hc hl) ?_
  rintro v h1 ⟨rfl, rfl⟩
  by_cases h0 : begE n xs = 0
  · obtain ⟨hp, hz, hn1, hn2⟩ := beg_whole h0 hn.symm
    have e0 : numZ n xs = (numN n (natL xs) : Nat) := if_pos h0
    have hbf := begF_perm hp List.nodup_range
    obtain ⟨ds, hds⟩ : ∃ ds, ds = digF (List.range n) (natL xs) := ⟨_, rfl⟩
    have hdf := dig_fits _ _ hbf
    rw [List.length_range, ← hds] at hdf
    have hdl : ds.length = n := by rw [hds, digF_length, natL_length]; omega
    have hN : numN n (natL xs) = numD n ds := by rw [hds]; rfl
    have hNlt := numD_lt ds n hdf
    have hfn := facF_le n hn2
    have hxl : (natL xs).length = n := by rw [natL_length]; omega
    simp only [h0, coreS, Value.cells, Value.oneCell', Nat.reduceAdd, Nat.reduceSub, Nat.reduceMul, Nat.reduceLeDiff, Int.reduceEq, Nat.reduceEqDiff, agg3, by3, inf3, sz3, Try.underlying22]
    refine WP_loopI [5, 6, 7, 17, 18, 19, 20, 21, 22, 23, 24, 25, 26, 27, 28, 29, 30, 31, 32, 33, 34, 35, 36, 37, 38, 39, 40, 41, 42, 43, 44] (fun e h' => h' = h1 ∧ ∃ (i acc : Nat), i ≤ n ∧ e 6 = .int .i64 i ∧ e 5 = .int .i64 acc ∧ acc + numD (n - i) (ds.drop i) = numD n ds) (fun e _ => match e 6 with | .int _ m => n - m.toNat | _ => 0) ⟨rfl, 0, 0, by omega, rfl, rfl, by simp⟩ ?_
    rintro e h' ⟨rfl, i, acc, hi, he6, he5, hacc⟩
    simp only [he6, he5, coreS, Value.cells, Value.oneCell', Nat.reduceAdd, Nat.reduceSub, Nat.reduceMul, Nat.reduceLeDiff, Int.reduceEq, Nat.reduceEqDiff, agg3, by3, inf3, sz3, Try.underlying22]
    refine ⟨fun hlt => ?_, fun hge => ?_⟩
    · have hil : i < (natL xs).length := by omega
      have hdrop := numD_drop (n := n) (i := i) (ds := ds) (by omega)
      have hcnt := dig_count hp hil
      rw [← hds] at hcnt
      obtain ⟨F, hF⟩ : ∃ F, F = facF (n - i - 1) := ⟨_, rfl⟩
      rw [← hF] at hdrop
      obtain ⟨sh, hsh⟩ : ∃ sh, sh = (natL xs).getD i 0 := ⟨_, rfl⟩
      rw [← hsh] at hcnt
      refine ⟨by rw [inK_i64]; omega, ?_⟩
      refine WP_loopI [5, 7, 24, 25, 26, 27, 28, 29, 30, 31, 32, 33, 34, 35, 36, 37, 38, 39, 40, 41, 42, 43, 44] (fun e h2 => h2 = h' ∧ ∃ (k q : Nat), i + 1 ≤ k ∧ k ≤ n ∧ e 7 = .int .i64 k ∧ e 5 = .int .i64 ((acc + q * F : Nat) : Int) ∧ q + (((natL xs).drop k).filter fun y => decide (y < sh)).length = ds.getD i 0) (fun e _ => match e 7 with | .int _ m => n - m.toNat | _ => 0) ⟨rfl, i + 1, 0, by omega, by omega, rfl, by show Value.int _ _ = Value.int _ _; simp, by omega⟩ ?_
      rintro e h2 ⟨rfl, k, q, hk1, hk2, he7, he5, hq⟩
      simp only [he7, he5, coreS, Value.cells, Value.oneCell', Nat.reduceAdd, Nat.reduceSub, Nat.reduceMul, Nat.reduceLeDiff, Int.reduceEq, Nat.reduceEqDiff, agg3, by3, inf3, sz3, Try.underlying22]
      have hqF : q * F ≤ ds.getD i 0 * F := Nat.mul_le_mul_right _ (by omega)
      refine ⟨fun hlt2 => ?_, fun hge2 => ?_⟩
      · have hkl : k < (natL xs).length := by omega
        have hkx : k < xs.length := by omega
        have hix : i < xs.length := by omega
        have hxk : xs.getD k 0 = (((natL xs).getD k 0 : Nat) : Int) := by
          conv => lhs; rw [← hz]
          rw [zs_get]
        have hxi : xs.getD i 0 = (sh : Int) := by
          rw [hsh]
          conv => lhs; rw [← hz]
          rw [zs_get]
        have hdk : (natL xs).drop k = (natL xs).getD k 0 :: (natL xs).drop (k + 1) := drop_next hkl
        rw [hdk] at hq
        refine WP_draw (by kernel_rfl) sta_eq [(0, 0), (1, 0), (2, 0), (3, 0), (4, 0), (5, 0), (6, 0), (7, 0), (8, 0)] (by kernel_rfl) rfl (by kernel_rfl) ?_
        simp only [hv.cell hkx, hv.cell hix, hxk, hxi, hvK_eq, coreS, Value.cells, Value.oneCell', Nat.reduceAdd, Nat.reduceSub, Nat.reduceMul, Nat.reduceLeDiff, Int.reduceEq, Nat.reduceEqDiff, drawS, agg3, by3, inf3, sz3, Try.underlying22]
        repeat (refine And.intro (by first | omega | (rw [inK_i64]; omega) | rfl | assumption | (exact hv.isSome (by omega))) ?_)
        refine ⟨fun hc1 => ?_, fun hc1 => ?_⟩
        · rw [List.filter_cons_of_pos (by simp only [decide_eq_true_eq]; omega), List.length_cons] at hq
          have hqF1 : (q + 1) * F ≤ ds.getD i 0 * F := Nat.mul_le_mul_right _ (by omega)
          rw [Nat.add_mul, Nat.one_mul] at hqF1
          have en : ((n : Int) - 1 - (i : Int)) = ((n - 1 - i : Nat) : Int) := by omega
          simp only [he5, en, coreS, Value.cells, Value.oneCell', Nat.reduceAdd, Nat.reduceSub, Nat.reduceMul, Nat.reduceLeDiff, Int.reduceEq, Nat.reduceEqDiff, agg3, by3, inf3, sz3, Try.underlying22]
          repeat (refine And.intro (by first | omega | (rw [inK_i64]; omega) | rfl | assumption) ?_)
          refine CallsH.mono (many48 (n - 1 - i) h2 (by omega)) ?_
          rintro v h3 ⟨rfl, rfl⟩
          rw [show n - 1 - i = n - i - 1 by omega, ← hF]
          simp only [he7, he5, coreS, Value.cells, Value.oneCell', Nat.reduceAdd, Nat.reduceSub, Nat.reduceMul, Nat.reduceLeDiff, Int.reduceEq, Nat.reduceEqDiff, agg3, by3, inf3, sz3, Try.underlying22]
          refine ⟨by rw [inK_i64]; omega, by rw [inK_i64]; omega, roundK_mk (by kernel_rfl) ⟨rfl, k + 1, q + 1, by omega, by omega, rfl, ?_, by omega⟩ ?_⟩
          · show Value.int _ _ = Value.int _ _
            rw [Nat.add_mul, Nat.one_mul]
            congr 1
            omega
          · show n - ((k : Int) + 1).toNat < n - (k : Int).toNat
            omega
        · rw [List.filter_cons_of_neg (by simp only [decide_eq_true_eq]; omega)] at hq
          refine ⟨by rw [inK_i64]; omega, roundK_mk (by kernel_rfl) ⟨rfl, k + 1, q, by omega, by omega, rfl, rfl, hq⟩ ?_⟩
          show n - ((k : Int) + 1).toNat < n - (k : Int).toNat
          omega
      · have hkn : k = n := by omega
        rw [List.drop_eq_nil_iff.2 (by omega)] at hq
        simp only [List.filter_nil, List.length_nil, Nat.add_zero] at hq
        refine ⟨by rw [inK_i64]; omega, roundK_mk (by kernel_rfl) ⟨rfl, i + 1, acc + q * F, by omega, rfl, rfl, by rw [hq]; omega⟩ ?_⟩
        show n - ((i : Int) + 1).toNat < n - (i : Int).toNat
        omega
    · have hin : i = n := by omega
      subst hin
      rw [Nat.sub_self, List.drop_eq_nil_iff.2 (by omega)] at hacc
      have : acc = numD i ds := by rw [← hacc]; rfl
      rw [e0, hN, ← this]
  · have e0 : numZ n xs = 0 := if_neg h0
    simp only [h0, coreS, Value.cells, Value.oneCell', Nat.reduceAdd, Nat.reduceSub, Nat.reduceMul, Nat.reduceLeDiff, Int.reduceEq, Nat.reduceEqDiff, agg3, by3, inf3, sz3, Try.underlying22]
    refine CallsH.mono (begunError57 n a n c xs h1 hv hc hl) ?_
    rintro v h2 ⟨rfl, rfl⟩
    simp only [coreS, Value.cells, Value.oneCell', Nat.reduceAdd, Nat.reduceSub, Nat.reduceMul, Nat.reduceLeDiff, Int.reduceEq, Nat.reduceEqDiff, agg3, by3, inf3, sz3, Try.underlying22]
    rw [e0]
end Go.Proofs.Ytoediaepoddonaa
