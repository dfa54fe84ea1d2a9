/- Walks: numbers of orders, of the program and of the reference. -/
import Derived.Test.YtoediaepoddonaaT16
import Derived.Test.YtoediaepoddonaaL5
namespace Go.Proofs.Ytoediaepoddonaa
open Go Go.Proofs Go.Eng Go.Run Tab
set_option maxRecDepth 100000
set_option linter.unusedSimpArgs false
set_option linter.unusedVariables false
set_option maxHeartbeats 1000000
theorem facF_le (n : Nat) (hn : n ≤ 12) : facF n ≤ 479001600 ∧ 0 < facF n := by
  have : ∀ n < 13, facF n ≤ 479001600 ∧ 0 < facF n := by decide +kernel
  exact this n (by omega)
theorem many48 (n : Nat) (h : Eng.Heap) (hn : n ≤ 12) : CallsH Try.prog 48 #[.int .i64 n] h (fun v h' => v = .int .i64 (facF n) ∧ h' = h) := by
  refine CallsH_of_exec Try.func48 rfl bod48 ?_
  simp only [Try.ntmps48, Try.results48, coreS, stK_some, splice, Value.cells, Value.oneCell', Nat.reduceAdd, Nat.reduceSub, Nat.reduceMul, Nat.reduceLeDiff, Int.reduceEq, Nat.reduceEqDiff]
  refine WP_loopI [3, 4, 5, 6, 7, 8, 9, 10, 11, 12] (fun g h' => h' = h ∧ ∃ i : Nat, i ≤ n ∧ g 4 = .int .i64 ((i : Int) + 1) ∧ g 3 = .int .i64 (facF i)) (fun g _ => match g 4 with | .int _ m => n + 1 - m.toNat | _ => 0) ⟨rfl, 0, by omega, rfl, rfl⟩ ?_
  rintro g h' ⟨rfl, i, hi, hg4, hg3⟩
  have hf := facF_le i (by omega)
  simp only [hg4, hg3, coreS, Value.cells, Value.oneCell', Nat.reduceAdd, Nat.reduceSub, Nat.reduceMul, Nat.reduceLeDiff, Int.reduceEq, Nat.reduceEqDiff]
  refine ⟨fun hle => ?_, fun hgt => ?_⟩
  · have hf1 := facF_le (i + 1) (by omega)
    have e1 : (facF i : Int) * ((i : Int) + 1) = (facF (i + 1) : Nat) := by rw [facF_succ]; push_cast; rfl
    rw [e1]
    refine ⟨by rw [inK_i64]; omega, by rw [inK_i64]; omega, roundK_mk (by kernel_rfl) ⟨rfl, i + 1, by omega, by show Value.int _ _ = Value.int _ _; congr 1, rfl⟩ ?_⟩
    show n + 1 - ((i : Int) + 1 + 1).toNat < n + 1 - ((i : Int) + 1).toNat
    omega
  · have : i = n := by omega
    subst this
    trivial
/-- The error of a number of an order. -/
def nbrE (shops number : Int) : Int := if 1 ≤ shops ∧ shops ≤ 12 then if number < 0 ∨ (facF shops.toNat : Int) ≤ number then 2 else 0 else 6
def nbrZ (shops number : Int) : List Int := if nbrE shops number = 0 then zs (ordN shops.toNat number.toNat) else []
theorem nbrE_ok {shops number : Int} (h : nbrE shops number = 0) : ∃ n a : Nat, shops = n ∧ number = a ∧ 1 ≤ n ∧ n ≤ 12 ∧ a < facF n := by
  unfold nbrE at h
  split at h
  · split at h
    · omega
    · exact ⟨shops.toNat, number.toNat, by omega, by omega, by omega, by omega, by omega⟩
  · omega
theorem numberedR41 (shops number : Int) (h : Eng.Heap) : CallsH Try.prog 41 #[.int .i64 shops, .int .i64 number] h (fun v h' => Ext h h' ∧ ListP (nbrE shops number) (nbrZ shops number) h' v) := by
  refine CallsH_of_exec Try.func41 rfl bod41 ?_
  simp only [Try.ntmps41, Try.results41, coreS, stK_some, splice, Value.cells, Value.oneCell', Nat.reduceAdd, Nat.reduceSub, Nat.reduceMul, Nat.reduceLeDiff, Int.reduceEq, Nat.reduceEqDiff, by3, inf3, sz3, zero3, Try.underlying22]
  refine CallsH.mono (isShops61 _ _) ?_
  rintro v h1 ⟨rfl, rfl⟩
  by_cases h0 : openE shops [] = 0
  · have hsh : 1 ≤ shops ∧ shops ≤ 12 := by
      have := openE_ne (n := shops)
      omega
    obtain ⟨n, rfl⟩ : ∃ n : Nat, shops = n := ⟨shops.toNat, by omega⟩
    have hf := facF_le n (by omega)
    have err : (number < 0 ∨ (facF n : Int) ≤ number) → nbrE n number = 2 := fun hc => by rw [nbrE, if_pos hsh, Int.toNat_natCast, if_pos hc]
    simp only [h0, coreS, Value.cells, Value.oneCell', Nat.reduceAdd, Nat.reduceSub, Nat.reduceMul, Nat.reduceLeDiff, Int.reduceEq, Nat.reduceEqDiff, by3, inf3, sz3, zero3, Try.underlying22]
    refine ⟨fun hneg => ?_, fun hnn => ?_⟩
    · rw [err (.inl hneg)]
      exact ⟨Ext.refl _, listP_err _ (if_neg (by rw [err (.inl hneg)]; decide))⟩
    refine CallsH.mono (many48 n _ (by omega)) ?_
    rintro v h2 ⟨rfl, rfl⟩
    simp only [coreS, Value.cells, Value.oneCell', Nat.reduceAdd, Nat.reduceSub, Nat.reduceMul, Nat.reduceLeDiff, Int.reduceEq, Nat.reduceEqDiff, by3, inf3, sz3, zero3, Try.underlying22]
    refine ⟨fun hge => ?_, fun hlt => ?_⟩
    · rw [err (.inr hge)]
      exact ⟨Ext.refl _, listP_err _ (if_neg (by rw [err (.inr hge)]; decide))⟩
    obtain ⟨a, rfl⟩ : ∃ a : Nat, number = a := ⟨number.toNat, by omega⟩
    have ha : a < facF n := by omega
    have hok : nbrE n a = 0 := by rw [nbrE, if_pos hsh, Int.toNat_natCast, if_neg (by omega)]
    have hfit := digN_fits n a
    have hdl := digN_length n a
    refine WP_loopI [6, 7, 8, 21, 22, 23, 24, 25, 26, 27, 28, 29, 30, 31, 32, 33, 34, 35, 36, 37, 38, 39, 40, 41, 42, 43, 44, 45, 46, 47, 48, 49, 50, 51, 52, 53, 54, 55] (fun g h' => Ext h2 h' ∧ ∃ (i : Nat) (a2 : Option Addr) (c2 : Nat), i ≤ n ∧ g 6 = .slice a2 i c2 ∧ OwnI h2.size h' 3 a2 i c2 (zs (ofDig (List.range n) ((digN n a).take i))) ∧ g 7 = .int .i64 ((a % facF (n - i) : Nat) : Int)) (fun g _ => match g 6 with | .slice _ m _ => n - m | _ => 0) ?_ ?_
    · refine ⟨Ext.refl _, 0, none, 0, by omega, rfl, OwnI.nil _ _ _, ?_⟩
      show Value.int _ _ = Value.int _ _
      rw [Nat.sub_zero, Nat.mod_eq_of_lt ha]
    · rintro g h' ⟨x, i, a2, c2, hi, hg6, O, hg7⟩
      simp only [hg6, hg7, coreS, Value.cells, Value.oneCell', Nat.reduceAdd, Nat.reduceSub, Nat.reduceMul, Nat.reduceLeDiff, Int.reduceEq, Nat.reduceEqDiff, by3, inf3, sz3, zero3, Try.underlying22]
      refine ⟨fun hlt2 => ?_, fun hge2 => ?_⟩
      · have hin : i < n := by omega
        obtain ⟨out, hout⟩ : ∃ out, out = ofDig (List.range n) ((digN n a).take i) := ⟨_, rfl⟩
        have hft := fits_take _ n i hfit
        have hll := restL_length ((digN n a).take i) (List.range n) (by rw [List.length_range]; exact hft)
        have hfree := restL_free _ _ n rfl hft
        have hdg := fits_get _ _ i hfit (by omega)
        rw [List.length_range, List.length_take] at hll
        rw [← hout] at O hfree
        obtain ⟨hd1, hd2⟩ := digN_mod n a i hin
        obtain ⟨d, hd⟩ : ∃ d, d = (digN n a).getD i 0 := ⟨_, rfl⟩
        rw [← hd] at hdg hd1
        obtain ⟨r0, hr0⟩ : ∃ r0, r0 = a % facF (n - i) := ⟨_, rfl⟩
        rw [← hr0] at hd1 hd2 hg7 ⊢
        have hF := facF_le (n - 1 - i) (by omega)
        obtain ⟨F, hFe⟩ : ∃ F, F = facF (n - 1 - i) := ⟨_, rfl⟩
        rw [← hFe] at hd1 hd2 hF
        have hfl : (freeL out n).length = n - i := by rw [← hfree, hll]; omega
        have en : ((n : Int) - 1 - (i : Int)) = ((n - 1 - i : Nat) : Int) := by omega
        have hr0le : r0 < facF n := by rw [hr0]; exact Nat.lt_of_le_of_lt (Nat.mod_le _ _) ha
        have hdm : d * F + r0 % F = r0 := by
          have := Nat.div_add_mod r0 F
          rw [hd1, Nat.mul_comm] at this
          exact this
        have hml := Nat.mod_lt r0 hF.2
        have hdF : d * F ≤ r0 := by rw [← hd1]; exact Nat.div_mul_le_self _ _
        refine WP_loopI [7, 8, 25, 26, 27, 28, 29, 30, 31, 32, 33, 34, 35, 36, 37, 38, 39, 40, 41, 42, 43, 44, 45, 46, 47, 48, 49, 50, 51] (fun g h3 => h3 = h' ∧ ∃ s : Nat, s ≤ n ∧ (freeL out s).length ≤ d ∧ g 8 = .int .i64 s ∧ g 7 = .int .i64 ((r0 - (freeL out s).length * F : Nat) : Int)) (fun g _ => match g 8 with | .int _ m => n - m.toNat | _ => 0) ⟨rfl, 0, by omega, by simp [freeL], rfl, by show Value.int _ _ = Value.int _ _; simp [freeL]⟩ ?_
        rintro g h3 ⟨rfl, s, hs, hq, hg8, hg7⟩
        simp only [hg8, hg7, coreS, Value.cells, Value.oneCell', Nat.reduceAdd, Nat.reduceSub, Nat.reduceMul, Nat.reduceLeDiff, Int.reduceEq, Nat.reduceEqDiff, by3, inf3, sz3, zero3, Try.underlying22]
        refine CallsH.mono (has80 a2 i c2 (zs out) s h3 O.ints (by omega)) ?_
        rintro v h4 ⟨rfl, rfl⟩
        have hqF : (freeL out s).length * F ≤ d * F := Nat.mul_le_mul_right _ hq
        by_cases hm : s ∈ out
        · have hm' : (s : Int) ∈ zs out := zs_mem.2 hm
          simp only [hm', decide_true, coreS, Value.cells, Value.oneCell', Nat.reduceAdd, Nat.reduceSub, Nat.reduceMul, Nat.reduceLeDiff, Int.reduceEq, Nat.reduceEqDiff, by3, inf3, sz3, zero3, Try.underlying22]
          refine CallsH.mono (has80 a2 i c2 (zs out) s h4 O.ints (by omega)) ?_
          rintro v h5 ⟨rfl, rfl⟩
          have hsn : s < n := by
            have hp := ofDig_perm
            rcases Nat.lt_or_ge s n with h6 | h6
            · exact h6
            · exfalso
              have : s = n := by omega
              subst this
              omega
          have hfs : freeL out (s + 1) = freeL out s := by rw [freeL_succ, if_pos hm, List.append_nil]
          simp only [hm', decide_true, Bool.not_true, coreS, Value.cells, Value.oneCell', Nat.reduceAdd, Nat.reduceSub, Nat.reduceMul, Nat.reduceLeDiff, Int.reduceEq, Nat.reduceEqDiff, by3, inf3, sz3, zero3, Try.underlying22]
          refine ⟨by rw [inK_i64]; omega, roundK_mk (by kernel_rfl) ⟨rfl, s + 1, by omega, by rw [hfs]; exact hq, rfl, by rw [hfs]; rfl⟩ ?_⟩
          show n - ((s : Int) + 1).toNat < n - (s : Int).toNat
          omega
        · have hm' : ¬ (s : Int) ∈ zs out := fun h => hm (zs_mem.1 h)
          have hsn : s < n := by
            rcases Nat.lt_or_ge s n with h6 | h6
            · exact h6
            · have : s = n := by omega
              subst this
              omega
          obtain ⟨hat1, hat2⟩ := freeL_at hsn hm
          simp only [hm', decide_false, en, coreS, Value.cells, Value.oneCell', Nat.reduceAdd, Nat.reduceSub, Nat.reduceMul, Nat.reduceLeDiff, Int.reduceEq, Nat.reduceEqDiff, by3, inf3, sz3, zero3, Try.underlying22]
          repeat (refine And.intro (by first | omega | (rw [inK_i64]; omega) | rfl | assumption) ?_)
          refine CallsH.mono (many48 (n - 1 - i) _ (by omega)) ?_
          rintro v h5 ⟨rfl, rfl⟩
          rw [← hFe]
          simp only [coreS, Value.cells, Value.oneCell', Nat.reduceAdd, Nat.reduceSub, Nat.reduceMul, Nat.reduceLeDiff, Int.reduceEq, Nat.reduceEqDiff, by3, inf3, sz3, zero3, Try.underlying22]
          refine ⟨fun hge3 => ?_, fun hlt3 => ?_⟩
          · -- not yet
            have hqd : (freeL out s).length < d := by
              rcases Nat.lt_or_ge (freeL out s).length d with h6 | h6
              · exact h6
              · have : (freeL out s).length = d := by omega
                rw [this] at hge3
                omega
            have hq1 : ((freeL out s).length + 1) * F ≤ d * F := Nat.mul_le_mul_right _ hqd
            rw [Nat.add_mul, Nat.one_mul] at hq1
            have hfs : (freeL out (s + 1)).length = (freeL out s).length + 1 := by rw [freeL_succ, if_neg hm]; simp
            refine CallsH.mono (has80 a2 i c2 (zs out) s _ O.ints (by omega)) ?_
            rintro v h6 ⟨rfl, rfl⟩
            simp only [hm', decide_false, Bool.not_false, hg7, en, coreS, Value.cells, Value.oneCell', Nat.reduceAdd, Nat.reduceSub, Nat.reduceMul, Nat.reduceLeDiff, Int.reduceEq, Nat.reduceEqDiff, by3, inf3, sz3, zero3, Try.underlying22]
            repeat (refine And.intro (by first | omega | (rw [inK_i64]; omega) | rfl | assumption) ?_)
            refine CallsH.mono (many48 (n - 1 - i) _ (by omega)) ?_
            rintro v h7 ⟨rfl, rfl⟩
            rw [← hFe]
            simp only [hg8, hg7, coreS, Value.cells, Value.oneCell', Nat.reduceAdd, Nat.reduceSub, Nat.reduceMul, Nat.reduceLeDiff, Int.reduceEq, Nat.reduceEqDiff, by3, inf3, sz3, zero3, Try.underlying22]
            refine ⟨by rw [inK_i64]; omega, by rw [inK_i64]; omega, roundK_mk (by kernel_rfl) ⟨rfl, s + 1, by omega, by omega, rfl, ?_⟩ ?_⟩
            · show Value.int _ _ = Value.int _ _
              rw [hfs, Nat.add_mul, Nat.one_mul]
              congr 1
              omega
            · show n - ((s : Int) + 1).toNat < n - (s : Int).toNat
              omega
          · -- the shop
            have hqd : (freeL out s).length = d := by
              rcases Nat.lt_or_ge (freeL out s).length d with h6 | h6
              · have hq1 : ((freeL out s).length + 1) * F ≤ d * F := Nat.mul_le_mul_right _ h6
                rw [Nat.add_mul, Nat.one_mul] at hq1
                omega
              · omega
            rw [hqd] at hat2 hg7
            have O5 := O.ext ((Ext.refl h5).push (.cells #[.int .i64 (s : Nat)] 3))
            repeat (refine And.intro (by first | omega | (rw [inK_i64]; omega) | rfl | assumption) ?_)
            refine app22 rfl rfl O5 (by have := x.size; simp; omega) intsV_one (by omega) fun a3 c3 h6 O6 A => ?_
            simp only [coreS, Value.cells, Value.oneCell', Nat.reduceAdd, Nat.reduceSub, Nat.reduceMul, Nat.reduceLeDiff, Int.reduceEq, Nat.reduceEqDiff, by3, inf3, sz3, zero3, Try.underlying22]
            refine roundK_mk (by kernel_rfl) ⟨A.extN O5 (x.push _) (Nat.le_refl _), i + 1, a3, c3, by omega, rfl, ?_, ?_⟩ ?_
            · have e : ofDig (List.range n) ((digN n a).take (i + 1)) = out ++ [s] := by
                rw [take_next (by omega), ofDig_snoc, ← hout, hfree, ← hd, hat2]
              rw [e, zs_append]
              exact O6
            · show Value.int _ _ = Value.int _ _
              congr 2
              rw [show n - (i + 1) = n - 1 - i by omega, ← hFe, ← hd2, hqd]
              omega
            · show n - (i + 1) < n - i
              omega
      · have : i = n := by omega
        subst this
        rw [List.take_of_length_le (by omega)] at O
        refine ⟨x, a2, i, c2, by rw [hok], by omega, O.cap, ?_⟩
        rw [nbrZ, if_pos hok, Int.toNat_natCast, Int.toNat_natCast]
        exact O.ints
  · have hsh := openE_ne.1 h0
    have e : nbrE shops number = 6 := by rw [nbrE, if_neg hsh]
    simp only [h0, coreS, Value.cells, Value.oneCell', Nat.reduceAdd, Nat.reduceSub, Nat.reduceMul, Nat.reduceLeDiff, Int.reduceEq, Nat.reduceEqDiff, by3, inf3, sz3, zero3, Try.underlying22]
    rw [e]
    exact ⟨Ext.refl _, listP_err _ (if_neg (by rw [e]; decide))⟩
end Go.Proofs.Ytoediaepoddonaa
